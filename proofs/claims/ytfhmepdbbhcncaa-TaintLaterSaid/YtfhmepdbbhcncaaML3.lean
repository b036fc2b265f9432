/- Texts of this claim, joined: Px9, T1, T3, T4, T7, T8a, Y, XW, Pf37, Pf38, T14, T16, Pf39, Pf40, T13, Pf21, T2b, T18, T19, Pf45, T20, T21, WQ, UC, UJ. -/
import Derived.Test.YtfhmepdbbhcncaaML2
import Derived.Test.YtfhmepdbbhcncaaWP
namespace Go.Proofs.Ytfhmepdbbhcncaa.P
open Go.RowKit Go.Proofs.YtfhmepdbbhcncaaW.PrintWords Go.Proofs.YtfhmepdbbhcncaaW.PrintLast
set_option linter.unusedVariables false
set_option linter.unusedSimpArgs false

attribute [local go_sem high] eqA26
-- NOT PRINTED: function 93 (slices_partitionOrdered_int)

-- NOT PRINTED: function 82 (slices_pdqsortOrdered_int)

-- NOT PRINTED: function 67 (slices_Sort_int_int)

-- NOT PRINTED: function 68 (taint_latest)

/-! ### forecourtlaw05_starts: function 36 -/
def forecourtlaw05_starts.l0 : Nat → List (S26) → List (S26) → Int → Option (Bool)
  | 0, _, _, _ => none
  | k + 1, x0, x1, x5 => if x5 < (x0.length : Int) then (if 0 ≤ x5 then (if x5 < (x1.length : Int) then (if (!(((rd_T26 x0 x5).f0) == ((rd_T26 x1 x5).f0)) || (!(((rd_T26 x0 x5).f1) == ((rd_T26 x1 x5).f1)))) = true then (some false) else (forecourtlaw05_starts.l0 k x0 x1 (wrap64 (x5 + 1)))) else (none)) else (none)) else (some true)
def forecourtlaw05_starts.f (k : Nat) (l0 : List (S26)) (l1 : List (S26)) : Option (Bool) := if (l0.length : Int) = (l1.length : Int) then (forecourtlaw05_starts.l0 k l0 l1 0) else (some false)
set_option maxHeartbeats 8000000 in
set_option maxRecDepth 100000 in
theorem forecourtlaw05_starts.calls (k : Nat) (A0 : Option Addr) (c0 : Nat) (l0 : List (S26)) (A1 : Option Addr) (c1 : Nat) (l1 : List (S26)) (r : Bool) (w : World) (hr0 : Kd.C k26 w A0 l0.length l0) (hc0 : l0.length ≤ c0) (hr1 : Kd.C k26 w A1 l1.length l1) (hc1 : l1.length ≤ c1) (h : forecourtlaw05_starts.f k l0 l1 = some r) :
    Calls Try.prog 36 #[.slice A0 l0.length c0, .slice A1 l1.length c1] w fun e w' => e = .returned (.bool r) ∧ Drawn0 w w' := by
  have hu26 := Try.underlying26
  have HR0 := Aside0.mk hr0
  have HC0 := Aside0.mk hc0
  clear hr0 hc0
  have HR1 := Aside0.mk hr1
  have HC1 := Aside0.mk hc1
  clear hr1 hc1
  have H : (if (l0.length : Int) = (l1.length : Int) then (forecourtlaw05_starts.l0 k l0 l1 0) else (some false)) = some r := h
  clear h
  by_cases c3 : (l0.length : Int) = (l1.length : Int)
  · rw [if_pos c3] at H
    have c3b0 : ((l0.length : Int) == (l1.length : Int)) = true := beq_iff_eq.mpr c3
    have c3b1 : ((l0.length : Int) != (l1.length : Int)) = false := bne_eq_false_iff_eq.mpr c3
    have c3b2 : (l0.length == l1.length) = true := by first | simpa using c3 | (simp at c3 ⊢; omega)
    clear c3
    have H' := Aside0.mk H
    clear H
    go_enter Try.func36, Try.ntmps36
    go_wp2
    repeat (go_quiet (fail); try go_wp2)
    go_loopg [5] k (fun kq v5 w' => ∃ (x5_1 : Int), v5 = .int .i64 x5_1 ∧ Aside0 (forecourtlaw05_starts.l0 kq l0 l1 x5_1 = some r) ∧ Aside0 (kq ≤ k) ∧ Drawn0 w w')
    case atStart => exact ⟨(0), (by first | rfl | (simp; done) | (simp [*]; done)), H', ⟨Nat.le_refl _⟩, by repeat (first | exact Drawn0.refl _ | apply Drawn0.step)⟩
    case round =>
      clear H'
      try clear c1
      try clear p2
      try clear c3
      try clear c3b0
      try clear c3b1
      try clear c3b2
      obtain ⟨x5_1, rfl, HA, HK1, ⟨m1, rfl⟩⟩ := hrel
      cases gk with
      | zero => exact absurd HA.out (by simp [forecourtlaw05_starts.l0])
      | succ k1 =>
        have H := HA.out
        clear HA
        simp only [forecourtlaw05_starts.l0] at H
        by_cases c4 : x5_1 < (l0.length : Int)
        · rw [if_pos c4] at H
          have c4b0 : decide (x5_1 < (l0.length : Int)) = true := decide_eq_true c4
          clear c4
          by_cases c5 : 0 ≤ x5_1
          · rw [if_pos c5] at H
            have c5b0 : decide (0 ≤ x5_1) = true := decide_eq_true c5
            clear c5
            by_cases c6 : x5_1 < (l1.length : Int)
            · rw [if_pos c6] at H
              have c6b0 : decide (x5_1 < (l1.length : Int)) = true := decide_eq_true c6
              clear c6
              by_cases c7 : (!(((rd_T26 l0 x5_1).f0) == ((rd_T26 l1 x5_1).f0)) || (!(((rd_T26 l0 x5_1).f1) == ((rd_T26 l1 x5_1).f1)))) = true
              · rw [if_pos c7] at H
                have c7b0 : (!(((rd_T26 l0 x5_1).f0) == ((rd_T26 l1 x5_1).f0)) || (!(((rd_T26 l0 x5_1).f1) == ((rd_T26 l1 x5_1).f1)))) = true := c7
                clear c7
                obtain rfl := Option.some.inj H
                have p232 : 0 ≤ (x5_1 : Int) := of_decide_eq_true (by first | (with_reducible assumption) | assumption)
                have q232 : x5_1 < (l0.length : Int) := of_decide_eq_true (by first | (with_reducible assumption) | assumption)
                obtain ⟨ad232, e232, hx232_0, hx232_1⟩ := at_T26 HR0.out x5_1 p232 q232
                cases e232
                replace p232 := eq_true p232
                replace q232 := eq_true q232
                have p233 : 0 ≤ (x5_1 : Int) := of_decide_eq_true (by first | (with_reducible assumption) | assumption)
                have q233 : x5_1 < (l1.length : Int) := of_decide_eq_true (by first | (with_reducible assumption) | assumption)
                obtain ⟨ad233, e233, hx233_0, hx233_1⟩ := at_T26 HR1.out x5_1 p233 q233
                cases e233
                replace p233 := eq_true p233
                replace q233 := eq_true q233
                go_wp2
                repeat (go_quiet (fail); try go_wp2)
                go_ret
                exact ⟨by first | rfl | (simp; done) | (simp [*]; done), by repeat (first | exact Drawn0.refl _ | apply Drawn0.step)⟩
              · rw [if_neg c7] at H
                have c7b0 : (!(((rd_T26 l0 x5_1).f0) == ((rd_T26 l1 x5_1).f0)) || (!(((rd_T26 l0 x5_1).f1) == ((rd_T26 l1 x5_1).f1)))) = false := by simpa using c7
                clear c7
                have H' := Aside0.mk H
                clear H
                have p232 : 0 ≤ (x5_1 : Int) := of_decide_eq_true (by first | (with_reducible assumption) | assumption)
                have q232 : x5_1 < (l0.length : Int) := of_decide_eq_true (by first | (with_reducible assumption) | assumption)
                obtain ⟨ad232, e232, hx232_0, hx232_1⟩ := at_T26 HR0.out x5_1 p232 q232
                cases e232
                replace p232 := eq_true p232
                replace q232 := eq_true q232
                have p233 : 0 ≤ (x5_1 : Int) := of_decide_eq_true (by first | (with_reducible assumption) | assumption)
                have q233 : x5_1 < (l1.length : Int) := of_decide_eq_true (by first | (with_reducible assumption) | assumption)
                obtain ⟨ad233, e233, hx233_0, hx233_1⟩ := at_T26 HR1.out x5_1 p233 q233
                cases e233
                replace p233 := eq_true p233
                replace q233 := eq_true q233
                go_wp2
                repeat (go_quiet (fail); try go_wp2)
                go_roundg k1
                case measure => have := HK1.out; omega
                case rel => exact ⟨(wrap64 (x5_1 + 1)), (by first | rfl | (simp; done) | (simp [*]; done)), H', ⟨by have := HK1.out; omega⟩, by repeat (first | exact Drawn0.refl _ | apply Drawn0.step)⟩
            · rw [if_neg c6] at H
              exact absurd H (by simp)
          · rw [if_neg c5] at H
            exact absurd H (by simp)
        · rw [if_neg c4] at H
          have c4b0 : decide (x5_1 < (l0.length : Int)) = false := decide_eq_false c4
          clear c4
          obtain rfl := Option.some.inj H
          go_wp2
          repeat (go_quiet (fail); try go_wp2)
          go_ret
          exact ⟨by first | rfl | (simp; done) | (simp [*]; done), by repeat (first | exact Drawn0.refl _ | apply Drawn0.step)⟩
  · rw [if_neg c3] at H
    have c3b0 : ((l0.length : Int) == (l1.length : Int)) = false := beq_eq_false_iff_ne.mpr c3
    have c3b1 : ((l0.length : Int) != (l1.length : Int)) = true := bne_iff_ne.mpr c3
    have c3b2 : (l0.length == l1.length) = false := by first | simpa using c3 | (simp at c3 ⊢; omega)
    obtain rfl := Option.some.inj H
    go_enter Try.func36, Try.ntmps36
    go_wp2
    repeat (go_quiet (fail); try go_wp2)
    go_ret
    exact ⟨by first | rfl | (simp; done) | (simp [*]; done), by repeat (first | exact Drawn0.refl _ | apply Drawn0.step)⟩

/-! ### forecourtlaw05_From: function 44 -/
def forecourtlaw05_From.f (a0 : Int) (a1 : Int) : Option (Int × Int) := some (a0, a1)
set_option maxHeartbeats 8000000 in
set_option maxRecDepth 100000 in
theorem forecourtlaw05_From.calls (a0 : Int) (a1 : Int) (r1 : Int) (r2 : Int) (w : World) (h : forecourtlaw05_From.f a0 a1 = some (r1, r2)) :
    Calls Try.prog 44 #[.int .i64 a0, .int .i64 a1] w fun e w' => e = .returned (.agg #[.int .i64 r1, .int .i64 r2]) ∧ Below w.heap.size w w' := by
  have hu26 := Try.underlying26
  have HB := Aside0.mk (Below.refl w.heap.size w)
  have H : (some (a0, a1)) = some (r1, r2) := h
  clear h
  simp only [Option.some.injEq, Prod.mk.injEq] at H
  obtain ⟨rfl, rfl⟩ := H
  go_enter Try.func44, Try.ntmps44
  go_wp2_with (first | ((with_reducible refine gate_dst (N := 4) rfl ?_); refine box_event ?hg (N := 4) ?hd (cs := #[.int .i64 0, .int .i64 0]) (t := 26) ?hr ?_; (case hd => rfl); (case hg => rfl); (case hr => first | (go_simp; done) | (go_simp; rfl)); intro gb234 hg w3 hbox hb; have n0_ := Aside0.mk (below_step (by repeat (first | (with_reducible first | exact HB.out | apply below_alloc | apply pw_below_drewN | apply below_drew1) | exact HB.out)) hb); have n1_ := Aside0.mk (hbox); have n2_ := Aside0.mk ((by rw [hg]; exact (below_size (by repeat (first | (with_reducible first | exact HB.out | apply below_alloc | apply pw_below_drewN | apply below_drew1) | exact HB.out))) : w.heap.size ≤ gb234)); have n3_ := Aside0.mk ((by rw [hg]; exact (below_size (by repeat (first | (with_reducible first | exact HB.out | apply below_alloc | apply pw_below_drewN | apply below_drew1) | exact HB.out))) : w.heap.size ≤ gb234)); clear HB; have HB := n0_; have BK234 := n1_; have GW234 := n2_; have GE234 := n3_; clear n0_ n1_ n2_ n3_; clear hb hbox hg; have hcz4_0 : w3.cell? ⟨gb234, 0, none⟩ = some (.int .i64 0) := (blk_cell BK234.out 0).trans rfl; have hcz4_1 : w3.cell? ⟨gb234, 1, none⟩ = some (.int .i64 0) := (blk_cell BK234.out 1).trans rfl; have hfz4_0 := blk_frozen BK234.out 0; have hfz4_1 := blk_frozen BK234.out 1))
  refine bodyPost_ret (results_cell_row rfl _ _ gb234 26 #[.int .i64 a0, .int .i64 a1] (0, 0) _ rfl (by (with_reducible repeat (first | refine blk_drewN ?_ _ | refine blk_drew ?_ | refine blk_alloc ?_ _)); refine blk_put (cs := #[.int .i64 a0, .int .i64 0]) ?_ 1 _ rfl; (with_reducible repeat (first | refine blk_drewN ?_ _ | refine blk_drew ?_ | refine blk_alloc ?_ _)); refine blk_put (cs := #[.int .i64 0, .int .i64 0]) ?_ 0 _ rfl; (with_reducible repeat (first | refine blk_drewN ?_ _ | refine blk_drew ?_ | refine blk_alloc ?_ _)); exact BK234.out) Try.underlying26 rfl (by kernel_rfl)) rfl ?_
  exact ⟨by first | rfl | (simp [errW_none, errW_some] <;> rfl) | (simp [*, errW_none, errW_some] <;> rfl), by repeat (first | (with_reducible first | exact HB.out | apply below_alloc | apply pw_below_drewN | apply below_drew1 | refine below_set ?_ GE234.out) | exact HB.out)⟩

/-! ### forecourtlaw05_Move: function 46 -/
def forecourtlaw05_Move.f (a0 : Int) (a1 : Int) (a2 : Int) (a3 : Int) : Option (Int × Int × Int × Int) := some (a0, a1, a2, a3)
set_option maxHeartbeats 8000000 in
set_option maxRecDepth 100000 in
theorem forecourtlaw05_Move.calls (a0 : Int) (a1 : Int) (a2 : Int) (a3 : Int) (r1 : Int) (r2 : Int) (r3 : Int) (r4 : Int) (w : World) (h : forecourtlaw05_Move.f a0 a1 a2 a3 = some (r1, r2, r3, r4)) :
    Calls Try.prog 46 #[.int .i64 a0, .int .i64 a1, .int .i64 a2, .int .i64 a3] w fun e w' => e = .returned (.agg #[.int .i64 r1, .int .i64 r2, .int .i64 r3, .int .i64 r4]) ∧ Below w.heap.size w w' := by
  have hu58 := Try.underlying58
  have hu56 := Try.underlying56
  have HB := Aside0.mk (Below.refl w.heap.size w)
  have H : (some (a0, a1, a2, a3)) = some (r1, r2, r3, r4) := h
  clear h
  simp only [Option.some.injEq, Prod.mk.injEq] at H
  obtain ⟨rfl, rfl, rfl, rfl⟩ := H
  go_enter Try.func46, Try.ntmps46
  go_wp2_with (first | ((with_reducible refine gate_dst (N := 8) rfl ?_); refine box_event ?hg (N := 8) ?hd (cs := #[.int .i64 0, .int .i64 0, .int .i64 0, .int .i64 0]) (t := 58) ?hr ?_; (case hd => rfl); (case hg => rfl); (case hr => first | (go_simp; done) | (go_simp; rfl)); intro gb235 hg w5 hbox hb; have n0_ := Aside0.mk (below_step (by repeat (first | (with_reducible first | exact HB.out | apply below_alloc | apply pw_below_drewN | apply below_drew1) | exact HB.out)) hb); have n1_ := Aside0.mk (hbox); have n2_ := Aside0.mk ((by rw [hg]; exact (below_size (by repeat (first | (with_reducible first | exact HB.out | apply below_alloc | apply pw_below_drewN | apply below_drew1) | exact HB.out))) : w.heap.size ≤ gb235)); have n3_ := Aside0.mk ((by rw [hg]; exact (below_size (by repeat (first | (with_reducible first | exact HB.out | apply below_alloc | apply pw_below_drewN | apply below_drew1) | exact HB.out))) : w.heap.size ≤ gb235)); clear HB; have HB := n0_; have BK235 := n1_; have GW235 := n2_; have GE235 := n3_; clear n0_ n1_ n2_ n3_; clear hb hbox hg; have hcz6_0 : w5.cell? ⟨gb235, 0, none⟩ = some (.int .i64 0) := (blk_cell BK235.out 0).trans rfl; have hcz6_1 : w5.cell? ⟨gb235, 1, none⟩ = some (.int .i64 0) := (blk_cell BK235.out 1).trans rfl; have hcz6_2 : w5.cell? ⟨gb235, 2, none⟩ = some (.int .i64 0) := (blk_cell BK235.out 2).trans rfl; have hcz6_3 : w5.cell? ⟨gb235, 3, none⟩ = some (.int .i64 0) := (blk_cell BK235.out 3).trans rfl; have hfz6_0 := blk_frozen BK235.out 0; have hfz6_1 := blk_frozen BK235.out 1; have hfz6_2 := blk_frozen BK235.out 2; have hfz6_3 := blk_frozen BK235.out 3))
  refine bodyPost_ret (results_cell_row rfl _ _ gb235 58 #[.int .i64 a0, .int .i64 a1, .int .i64 a2, .int .i64 a3] (0, 0) _ rfl (by (with_reducible repeat (first | refine blk_drewN ?_ _ | refine blk_drew ?_ | refine blk_alloc ?_ _)); refine blk_put (cs := #[.int .i64 a0, .int .i64 a1, .int .i64 a2, .int .i64 0]) ?_ 3 _ rfl; (with_reducible repeat (first | refine blk_drewN ?_ _ | refine blk_drew ?_ | refine blk_alloc ?_ _)); refine blk_put (cs := #[.int .i64 a0, .int .i64 a1, .int .i64 0, .int .i64 0]) ?_ 2 _ rfl; (with_reducible repeat (first | refine blk_drewN ?_ _ | refine blk_drew ?_ | refine blk_alloc ?_ _)); refine blk_put (cs := #[.int .i64 a0, .int .i64 0, .int .i64 0, .int .i64 0]) ?_ 1 _ rfl; (with_reducible repeat (first | refine blk_drewN ?_ _ | refine blk_drew ?_ | refine blk_alloc ?_ _)); refine blk_put (cs := #[.int .i64 0, .int .i64 0, .int .i64 0, .int .i64 0]) ?_ 0 _ rfl; (with_reducible repeat (first | refine blk_drewN ?_ _ | refine blk_drew ?_ | refine blk_alloc ?_ _)); exact BK235.out) Try.underlying58 rfl (by kernel_rfl)) rfl ?_
  exact ⟨by first | rfl | (simp [errW_none, errW_some] <;> rfl) | (simp [*, errW_none, errW_some] <;> rfl), by repeat (first | (with_reducible first | exact HB.out | apply below_alloc | apply pw_below_drewN | apply below_drew1 | refine below_set ?_ GE235.out) | exact HB.out)⟩

/-! ### forecourtlaw05_Yard: function 47 -/
def forecourtlaw05_Yard.f  : Option (Int × (List (S58))) := (forecourtlaw05_Move.f 0 1 10 12).bind fun bt237 => ((forecourtlaw05_Move.f 1 3 8 9).bind fun bt241 => ((forecourtlaw05_Move.f 1 4 11 20).bind fun bt245 => ((forecourtlaw05_Move.f 1 2 15 18).bind fun bt249 => ((forecourtlaw05_Move.f 2 5 16 30).bind fun bt253 => (some (6, (([(⟨bt237.1, bt237.2.1, (⟨bt237.2.2.1, bt237.2.2.2⟩ : S56)⟩ : S58), (⟨bt241.1, bt241.2.1, (⟨bt241.2.2.1, bt241.2.2.2⟩ : S56)⟩ : S58), (⟨bt245.1, bt245.2.1, (⟨bt245.2.2.1, bt245.2.2.2⟩ : S56)⟩ : S58), (⟨bt249.1, bt249.2.1, (⟨bt249.2.2.1, bt249.2.2.2⟩ : S56)⟩ : S58), (⟨bt253.1, bt253.2.1, (⟨bt253.2.2.1, bt253.2.2.2⟩ : S56)⟩ : S58)] : List (S58)))))))))
set_option maxHeartbeats 8000000 in
set_option maxRecDepth 100000 in
theorem forecourtlaw05_Yard.calls  (r1 : Int) (r2 : List (S58)) (w : World) (h : forecourtlaw05_Yard.f  = some (r1, r2)) :
    Calls Try.prog 47 #[] w fun e w' => ∃ v1_ : Value, e = .returned (.agg #[.int .i64 r1, v1_]) ∧ Kd.R k58 58 w' w.heap.size (fun _ => True) v1_ r2 ∧ Below w.heap.size w w' := by
  have hu24 := Try.underlying24
  have HB := Aside0.mk (Below.refl w.heap.size w)
  have H : ((forecourtlaw05_Move.f 0 1 10 12).bind fun bt237 => ((forecourtlaw05_Move.f 1 3 8 9).bind fun bt241 => ((forecourtlaw05_Move.f 1 4 11 20).bind fun bt245 => ((forecourtlaw05_Move.f 1 2 15 18).bind fun bt249 => ((forecourtlaw05_Move.f 2 5 16 30).bind fun bt253 => (some (6, (([(⟨bt237.1, bt237.2.1, (⟨bt237.2.2.1, bt237.2.2.2⟩ : S56)⟩ : S58), (⟨bt241.1, bt241.2.1, (⟨bt241.2.2.1, bt241.2.2.2⟩ : S56)⟩ : S58), (⟨bt245.1, bt245.2.1, (⟨bt245.2.2.1, bt245.2.2.2⟩ : S56)⟩ : S58), (⟨bt249.1, bt249.2.1, (⟨bt249.2.2.1, bt249.2.2.2⟩ : S56)⟩ : S58), (⟨bt253.1, bt253.2.1, (⟨bt253.2.2.1, bt253.2.2.2⟩ : S56)⟩ : S58)] : List (S58)))))))))) = some (r1, r2) := h
  clear h
  replace H := Option.bind_eq_some_iff.mp H
  obtain ⟨⟨t237, t238, t239, t240⟩, A10, H⟩ := H
  replace H : ((forecourtlaw05_Move.f 1 3 8 9).bind fun bt241 => ((forecourtlaw05_Move.f 1 4 11 20).bind fun bt245 => ((forecourtlaw05_Move.f 1 2 15 18).bind fun bt249 => ((forecourtlaw05_Move.f 2 5 16 30).bind fun bt253 => (some (6, (([(⟨t237, t238, (⟨t239, t240⟩ : S56)⟩ : S58), (⟨bt241.1, bt241.2.1, (⟨bt241.2.2.1, bt241.2.2.2⟩ : S56)⟩ : S58), (⟨bt245.1, bt245.2.1, (⟨bt245.2.2.1, bt245.2.2.2⟩ : S56)⟩ : S58), (⟨bt249.1, bt249.2.1, (⟨bt249.2.2.1, bt249.2.2.2⟩ : S56)⟩ : S58), (⟨bt253.1, bt253.2.1, (⟨bt253.2.2.1, bt253.2.2.2⟩ : S56)⟩ : S58)] : List (S58))))))))) = some (r1, r2) := H
  have A1 := Aside0.mk A10
  clear A10
  replace H := Option.bind_eq_some_iff.mp H
  obtain ⟨⟨t241, t242, t243, t244⟩, A20, H⟩ := H
  replace H : ((forecourtlaw05_Move.f 1 4 11 20).bind fun bt245 => ((forecourtlaw05_Move.f 1 2 15 18).bind fun bt249 => ((forecourtlaw05_Move.f 2 5 16 30).bind fun bt253 => (some (6, (([(⟨t237, t238, (⟨t239, t240⟩ : S56)⟩ : S58), (⟨t241, t242, (⟨t243, t244⟩ : S56)⟩ : S58), (⟨bt245.1, bt245.2.1, (⟨bt245.2.2.1, bt245.2.2.2⟩ : S56)⟩ : S58), (⟨bt249.1, bt249.2.1, (⟨bt249.2.2.1, bt249.2.2.2⟩ : S56)⟩ : S58), (⟨bt253.1, bt253.2.1, (⟨bt253.2.2.1, bt253.2.2.2⟩ : S56)⟩ : S58)] : List (S58)))))))) = some (r1, r2) := H
  have A2 := Aside0.mk A20
  clear A20
  replace H := Option.bind_eq_some_iff.mp H
  obtain ⟨⟨t245, t246, t247, t248⟩, A30, H⟩ := H
  replace H : ((forecourtlaw05_Move.f 1 2 15 18).bind fun bt249 => ((forecourtlaw05_Move.f 2 5 16 30).bind fun bt253 => (some (6, (([(⟨t237, t238, (⟨t239, t240⟩ : S56)⟩ : S58), (⟨t241, t242, (⟨t243, t244⟩ : S56)⟩ : S58), (⟨t245, t246, (⟨t247, t248⟩ : S56)⟩ : S58), (⟨bt249.1, bt249.2.1, (⟨bt249.2.2.1, bt249.2.2.2⟩ : S56)⟩ : S58), (⟨bt253.1, bt253.2.1, (⟨bt253.2.2.1, bt253.2.2.2⟩ : S56)⟩ : S58)] : List (S58))))))) = some (r1, r2) := H
  have A3 := Aside0.mk A30
  clear A30
  replace H := Option.bind_eq_some_iff.mp H
  obtain ⟨⟨t249, t250, t251, t252⟩, A40, H⟩ := H
  replace H : ((forecourtlaw05_Move.f 2 5 16 30).bind fun bt253 => (some (6, (([(⟨t237, t238, (⟨t239, t240⟩ : S56)⟩ : S58), (⟨t241, t242, (⟨t243, t244⟩ : S56)⟩ : S58), (⟨t245, t246, (⟨t247, t248⟩ : S56)⟩ : S58), (⟨t249, t250, (⟨t251, t252⟩ : S56)⟩ : S58), (⟨bt253.1, bt253.2.1, (⟨bt253.2.2.1, bt253.2.2.2⟩ : S56)⟩ : S58)] : List (S58)))))) = some (r1, r2) := H
  have A4 := Aside0.mk A40
  clear A40
  replace H := Option.bind_eq_some_iff.mp H
  obtain ⟨⟨t253, t254, t255, t256⟩, A50, H⟩ := H
  replace H : (some (6, (([(⟨t237, t238, (⟨t239, t240⟩ : S56)⟩ : S58), (⟨t241, t242, (⟨t243, t244⟩ : S56)⟩ : S58), (⟨t245, t246, (⟨t247, t248⟩ : S56)⟩ : S58), (⟨t249, t250, (⟨t251, t252⟩ : S56)⟩ : S58), (⟨t253, t254, (⟨t255, t256⟩ : S56)⟩ : S58)] : List (S58))))) = some (r1, r2) := H
  have A5 := Aside0.mk A50
  clear A50
  obtain ⟨y257, hy257⟩ : ∃ y_ : List (S58), y_ = (([(⟨t237, t238, (⟨t239, t240⟩ : S56)⟩ : S58), (⟨t241, t242, (⟨t243, t244⟩ : S56)⟩ : S58), (⟨t245, t246, (⟨t247, t248⟩ : S56)⟩ : S58), (⟨t249, t250, (⟨t251, t252⟩ : S56)⟩ : S58), (⟨t253, t254, (⟨t255, t256⟩ : S56)⟩ : S58)] : List (S58))) := ⟨_, rfl⟩
  replace H : (some (6, y257)) = some (r1, r2) := by first | (rw [hy257]; with_reducible exact H) | (have H2_ := (Option.bind_some _ _).symm.trans H; rw [hy257]; with_reducible exact H2_) | (have H2_ := (Option.bind_some _ _).symm.trans H; with_reducible exact H2_) | with_reducible exact H | (rw [hy257]; exact H) | exact H
  have Ny257 := Aside0.mk hy257
  clear hy257
  simp only [Option.some.injEq, Prod.mk.injEq] at H
  obtain ⟨rfl, rfl⟩ := H
  go_enter Try.func47, Try.ntmps47
  go_wp2_with (first | ((with_reducible refine gate_dst (N := 0) rfl ?_); refine box_event ?hg (N := 0) ?hd (cs := #[.int .i64 0, .slice none 0 0]) (t := 24) ?hr ?_; (case hd => rfl); (case hg => rfl); (case hr => first | (go_simp; done) | (go_simp; rfl)); intro gb236 hg w6 hbox hb; have n0_ := Aside0.mk (below_step (by repeat (first | (with_reducible first | exact HB.out | apply below_alloc | apply pw_below_drewN | apply below_drew1) | exact HB.out)) hb); have n1_ := Aside0.mk (hbox); have n2_ := Aside0.mk ((by rw [hg]; exact (below_size (by repeat (first | (with_reducible first | exact HB.out | apply below_alloc | apply pw_below_drewN | apply below_drew1) | exact HB.out))) : w.heap.size ≤ gb236)); have n3_ := Aside0.mk ((by rw [hg]; exact (below_size (by repeat (first | (with_reducible first | exact HB.out | apply below_alloc | apply pw_below_drewN | apply below_drew1) | exact HB.out))) : w.heap.size ≤ gb236)); clear HB; have HB := n0_; have BK236 := n1_; have GW236 := n2_; have GE236 := n3_; clear n0_ n1_ n2_ n3_; clear hb hbox hg) | ((with_reducible refine gate_callee (f := 46) rfl ?_); refine goesL_ (some 1) rfl rfl Try.func46 (by kernel_rfl) rfl #[.int .i64 0, .int .i64 1, .int .i64 10, .int .i64 12] rfl (by (try simp only [List.map_toArray, List.map_cons, List.map_nil]); first | done | rfl | (simp only [List.length_drop, List.length_take]; rfl)) ?_; (with_reducible refine (forecourtlaw05_Move.calls 0 1 10 12 t237 t238 t239 t240 _ A1.out).mono ?_); rintro e w7 ⟨rfl, hb⟩; refine ⟨_, rfl, ?_⟩; have n0_ := Aside0.mk (blk_below (g := gb236) (o := .cells #[.int .i64 0, .slice none 0 0] 24 (0, 0)) (by (with_reducible repeat (first | refine blk_drewN ?_ _ | refine blk_drew ?_ | refine blk_alloc ?_ _)); exact BK236.out) hb); have n1_ := Aside0.mk (below_step (by repeat (first | (with_reducible first | exact HB.out | apply below_alloc | apply pw_below_drewN | apply below_drew1 | refine below_set ?_ GE236.out) | exact HB.out)) hb); clear BK236; clear HB; have BK236 := n0_; have HB := n1_; clear n0_ n1_; (try clear hb); (try clear hb2); (try clear hk); (try clear hi)) | ((with_reducible refine gate_callee (f := 46) rfl ?_); refine goesL_ (some 2) rfl rfl Try.func46 (by kernel_rfl) rfl #[.int .i64 1, .int .i64 3, .int .i64 8, .int .i64 9] rfl (by (try simp only [List.map_toArray, List.map_cons, List.map_nil]); first | done | rfl | (simp only [List.length_drop, List.length_take]; rfl)) ?_; (with_reducible refine (forecourtlaw05_Move.calls 1 3 8 9 t241 t242 t243 t244 _ A2.out).mono ?_); rintro e w8 ⟨rfl, hb⟩; refine ⟨_, rfl, ?_⟩; have n0_ := Aside0.mk (blk_below (g := gb236) (o := .cells #[.int .i64 0, .slice none 0 0] 24 (0, 0)) (by (with_reducible repeat (first | refine blk_drewN ?_ _ | refine blk_drew ?_ | refine blk_alloc ?_ _)); exact BK236.out) hb); have n1_ := Aside0.mk (below_step (by repeat (first | (with_reducible first | exact HB.out | apply below_alloc | apply pw_below_drewN | apply below_drew1 | refine below_set ?_ GE236.out) | exact HB.out)) hb); clear BK236; clear HB; have BK236 := n0_; have HB := n1_; clear n0_ n1_; (try clear hb); (try clear hb2); (try clear hk); (try clear hi)) | ((with_reducible refine gate_callee (f := 46) rfl ?_); refine goesL_ (some 3) rfl rfl Try.func46 (by kernel_rfl) rfl #[.int .i64 1, .int .i64 4, .int .i64 11, .int .i64 20] rfl (by (try simp only [List.map_toArray, List.map_cons, List.map_nil]); first | done | rfl | (simp only [List.length_drop, List.length_take]; rfl)) ?_; (with_reducible refine (forecourtlaw05_Move.calls 1 4 11 20 t245 t246 t247 t248 _ A3.out).mono ?_); rintro e w9 ⟨rfl, hb⟩; refine ⟨_, rfl, ?_⟩; have n0_ := Aside0.mk (blk_below (g := gb236) (o := .cells #[.int .i64 0, .slice none 0 0] 24 (0, 0)) (by (with_reducible repeat (first | refine blk_drewN ?_ _ | refine blk_drew ?_ | refine blk_alloc ?_ _)); exact BK236.out) hb); have n1_ := Aside0.mk (below_step (by repeat (first | (with_reducible first | exact HB.out | apply below_alloc | apply pw_below_drewN | apply below_drew1 | refine below_set ?_ GE236.out) | exact HB.out)) hb); clear BK236; clear HB; have BK236 := n0_; have HB := n1_; clear n0_ n1_; (try clear hb); (try clear hb2); (try clear hk); (try clear hi)) | ((with_reducible refine gate_callee (f := 46) rfl ?_); refine goesL_ (some 4) rfl rfl Try.func46 (by kernel_rfl) rfl #[.int .i64 1, .int .i64 2, .int .i64 15, .int .i64 18] rfl (by (try simp only [List.map_toArray, List.map_cons, List.map_nil]); first | done | rfl | (simp only [List.length_drop, List.length_take]; rfl)) ?_; (with_reducible refine (forecourtlaw05_Move.calls 1 2 15 18 t249 t250 t251 t252 _ A4.out).mono ?_); rintro e w10 ⟨rfl, hb⟩; refine ⟨_, rfl, ?_⟩; have n0_ := Aside0.mk (blk_below (g := gb236) (o := .cells #[.int .i64 0, .slice none 0 0] 24 (0, 0)) (by (with_reducible repeat (first | refine blk_drewN ?_ _ | refine blk_drew ?_ | refine blk_alloc ?_ _)); exact BK236.out) hb); have n1_ := Aside0.mk (below_step (by repeat (first | (with_reducible first | exact HB.out | apply below_alloc | apply pw_below_drewN | apply below_drew1 | refine below_set ?_ GE236.out) | exact HB.out)) hb); clear BK236; clear HB; have BK236 := n0_; have HB := n1_; clear n0_ n1_; (try clear hb); (try clear hb2); (try clear hk); (try clear hi)) | ((with_reducible refine gate_callee (f := 46) rfl ?_); refine goesL_ (some 5) rfl rfl Try.func46 (by kernel_rfl) rfl #[.int .i64 2, .int .i64 5, .int .i64 16, .int .i64 30] rfl (by (try simp only [List.map_toArray, List.map_cons, List.map_nil]); first | done | rfl | (simp only [List.length_drop, List.length_take]; rfl)) ?_; (with_reducible refine (forecourtlaw05_Move.calls 2 5 16 30 t253 t254 t255 t256 _ A5.out).mono ?_); rintro e w11 ⟨rfl, hb⟩; refine ⟨_, rfl, ?_⟩; have n0_ := Aside0.mk (blk_below (g := gb236) (o := .cells #[.int .i64 0, .slice none 0 0] 24 (0, 0)) (by (with_reducible repeat (first | refine blk_drewN ?_ _ | refine blk_drew ?_ | refine blk_alloc ?_ _)); exact BK236.out) hb); have n1_ := Aside0.mk (below_step (by repeat (first | (with_reducible first | exact HB.out | apply below_alloc | apply pw_below_drewN | apply below_drew1 | refine below_set ?_ GE236.out) | exact HB.out)) hb); clear BK236; clear HB; have BK236 := n0_; have HB := n1_; clear n0_ n1_; (try clear hb); (try clear hb2); (try clear hk); (try clear hi)) | ((with_reducible refine gate_dst (N := 6) rfl ?_); refine Kd.R_lit k58 _ 58 ?hg (N := 6) ?hd (xs := ([(⟨t237, t238, (⟨t239, t240⟩ : S56)⟩ : S58), (⟨t241, t242, (⟨t243, t244⟩ : S56)⟩ : S58), (⟨t245, t246, (⟨t247, t248⟩ : S56)⟩ : S58), (⟨t249, t250, (⟨t251, t252⟩ : S56)⟩ : S58), (⟨t253, t254, (⟨t255, t256⟩ : S56)⟩ : S58)] : List (S58))) (inner := [.int .i64 t237, .int .i64 t238, .int .i64 t239, .int .i64 t240, .int .i64 t241, .int .i64 t242, .int .i64 t243, .int .i64 t244, .int .i64 t245, .int .i64 t246, .int .i64 t247, .int .i64 t248, .int .i64 t249, .int .i64 t250, .int .i64 t251, .int .i64 t252, .int .i64 t253, .int .i64 t254, .int .i64 t255, .int .i64 t256]) (ok := fun _ => True) (okp := fun _ => True) ?hr ?hp (fun _ hk => hk) trivial (Below.refl _ _) (Nat.le_refl _) (by simp) ?_; (case hd => rfl); (case hg => rfl); (case hr => first | (go_simp; done) | (go_simp; rfl)); (case hp => exact (Reps.c4 (show Kd.M k58 _ _ _ (⟨t237, t238, (⟨t239, t240⟩ : S56)⟩ : S58) [.int .i64 t237, .int .i64 t238, .int .i64 t239, .int .i64 t240] from (k58_mkM _ _ _ (⟨t237, t238, (⟨t239, t240⟩ : S56)⟩ : S58) )) (Reps.c4 (show Kd.M k58 _ _ _ (⟨t241, t242, (⟨t243, t244⟩ : S56)⟩ : S58) [.int .i64 t241, .int .i64 t242, .int .i64 t243, .int .i64 t244] from (k58_mkM _ _ _ (⟨t241, t242, (⟨t243, t244⟩ : S56)⟩ : S58) )) (Reps.c4 (show Kd.M k58 _ _ _ (⟨t245, t246, (⟨t247, t248⟩ : S56)⟩ : S58) [.int .i64 t245, .int .i64 t246, .int .i64 t247, .int .i64 t248] from (k58_mkM _ _ _ (⟨t245, t246, (⟨t247, t248⟩ : S56)⟩ : S58) )) (Reps.c4 (show Kd.M k58 _ _ _ (⟨t249, t250, (⟨t251, t252⟩ : S56)⟩ : S58) [.int .i64 t249, .int .i64 t250, .int .i64 t251, .int .i64 t252] from (k58_mkM _ _ _ (⟨t249, t250, (⟨t251, t252⟩ : S56)⟩ : S58) )) (Reps.c4 (show Kd.M k58 _ _ _ (⟨t253, t254, (⟨t255, t256⟩ : S56)⟩ : S58) [.int .i64 t253, .int .i64 t254, .int .i64 t255, .int .i64 t256] from (k58_mkM _ _ _ (⟨t253, t254, (⟨t255, t256⟩ : S56)⟩ : S58) )) (Reps.none _ _))))))); intro v258 w12 ho13 hb hg_ hnew_; clear hg_ hnew_; (first | rw [← Ny257.out] at ho13 | (simp only [Int.reduceToNat] at ho13; rw [← Ny257.out] at ho13)); have n0_ := Aside0.mk (Kd.R_lower ho13 (below_size (by repeat (first | (with_reducible first | exact HB.out | apply below_alloc | apply pw_below_drewN | apply below_drew1 | refine below_set ?_ GE236.out) | exact HB.out)))); have n1_ := Aside0.mk (blk_below (g := gb236) (o := .cells #[.int .i64 0, .slice none 0 0] 24 (0, 0)) (by (with_reducible repeat (first | refine blk_drewN ?_ _ | refine blk_drew ?_ | refine blk_alloc ?_ _)); exact BK236.out) hb); have n2_ := Aside0.mk (below_step (by repeat (first | (with_reducible first | exact HB.out | apply below_alloc | apply pw_below_drewN | apply below_drew1 | refine below_set ?_ GE236.out) | exact HB.out)) hb); clear BK236; clear HB; have HO259 := n0_; have BK236 := n1_; have HB := n2_; clear n0_ n1_ n2_; clear hb ho13; obtain ⟨Ao14, co14, eo14⟩ := Kd.R_slice HO259.out; subst eo14; have hcz15_0 : w12.cell? ⟨gb236, 0, none⟩ = some (.int .i64 0) := (blk_cell BK236.out 0).trans rfl; have hcz15_1 : w12.cell? ⟨gb236, 1, none⟩ = some (.slice none 0 0) := (blk_cell BK236.out 1).trans rfl; have hfz15_0 := blk_frozen BK236.out 0; have hfz15_1 := blk_frozen BK236.out 1))
  refine bodyPost_ret (results_cell_row rfl _ _ gb236 24 #[.int .i64 6, .slice Ao14 y257.length co14] (0, 0) _ rfl (by (with_reducible repeat (first | refine blk_drewN ?_ _ | refine blk_drew ?_ | refine blk_alloc ?_ _)); refine blk_put (cs := #[.int .i64 6, .slice none 0 0]) ?_ 1 _ rfl; (with_reducible repeat (first | refine blk_drewN ?_ _ | refine blk_drew ?_ | refine blk_alloc ?_ _)); refine blk_put (cs := #[.int .i64 0, .slice none 0 0]) ?_ 0 _ rfl; (with_reducible repeat (first | refine blk_drewN ?_ _ | refine blk_drew ?_ | refine blk_alloc ?_ _)); exact BK236.out) Try.underlying24 rfl (by kernel_rfl)) rfl ?_
  exact ⟨_, by first | rfl | (simp [errW_none, errW_some] <;> rfl) | (simp [*, errW_none, errW_some] <;> rfl), by (with_reducible repeat (first | apply Kd.R_alloc | apply Kd.R_drewN | apply Kd.R_drew)); exact Kd.R_mono (Kd.R_far (p := ⟨gb236, 1, none⟩) (Kd.R_far (p := ⟨gb236, 0, none⟩) (Kd.R_types HO259.out BK236.out (by decide)) (fun _ hk => hk.2) (.int .i64 6)) (fun _ hk => hk.2) (.slice Ao14 y257.length co14)) (fun _ hk => trivial), by repeat (first | (with_reducible first | exact HB.out | apply below_alloc | apply pw_below_drewN | apply below_drew1 | refine below_set ?_ GE236.out) | exact HB.out)⟩

/-! ### forecourtref05_Is: function 51 -/
def forecourtref05_Is.f (a0_0 : Int) (l0_1 : List (S58)) (a1 : Int) : Option (Bool) := if a1 ≥ 0 then (some (decide (a1 < a0_0))) else (some false)
set_option maxHeartbeats 8000000 in
set_option maxRecDepth 100000 in
theorem forecourtref05_Is.calls (a0_0 : Int) (A0_1 : Option Addr) (c0_1 : Nat) (l0_1 : List (S58)) (a1 : Int) (r : Bool) (w : World) (hr0_1 : Kd.C k58 w A0_1 l0_1.length l0_1) (hc0_1 : l0_1.length ≤ c0_1) (h : forecourtref05_Is.f a0_0 l0_1 a1 = some r) :
    Calls Try.prog 51 #[.agg #[.int .i64 a0_0, .slice A0_1 l0_1.length c0_1], .int .i64 a1] w fun e w' => e = .returned (.bool r) ∧ Below w.heap.size w w' := by
  have hu24 := Try.underlying24
  have HR0_1 := Aside0.mk hr0_1
  have HC0_1 := Aside0.mk hc0_1
  clear hr0_1 hc0_1
  have HB := Aside0.mk (Below.refl w.heap.size w)
  have H : (if a1 ≥ 0 then (some (decide (a1 < a0_0))) else (some false)) = some r := h
  clear h
  by_cases c3 : a1 ≥ 0
  · rw [if_pos c3] at H
    have c3b0 : decide (0 ≤ a1) = true := decide_eq_true c3
    clear c3
    obtain rfl := Option.some.inj H
    go_enter Try.func51, Try.ntmps51
    go_wp2_with (first | ((with_reducible refine gate_dst (N := 2) rfl ?_); refine box_event ?hg (N := 2) ?hd (cs := #[.int .i64 a0_0, .slice A0_1 l0_1.length c0_1]) (t := 24) ?hr ?_; (case hd => rfl); (case hg => rfl); (case hr => first | (go_simp; done) | (go_simp; rfl)); intro gb260 hg w4 hbox hb; have n0_ := Aside0.mk (below_step (by repeat (first | (with_reducible first | exact HB.out | apply below_alloc | apply pw_below_drewN | apply below_drew1) | exact HB.out)) hb); have n1_ := Aside0.mk (hbox); have n2_ := Aside0.mk ((by rw [hg]; exact (below_size (by repeat (first | (with_reducible first | exact HB.out | apply below_alloc | apply pw_below_drewN | apply below_drew1) | exact HB.out))) : w.heap.size ≤ gb260)); have n3_ := Aside0.mk ((by rw [hg]; exact (below_size (by repeat (first | (with_reducible first | exact HB.out | apply below_alloc | apply pw_below_drewN | apply below_drew1) | exact HB.out))) : w.heap.size ≤ gb260)); clear HB; have HB := n0_; have BK260 := n1_; have GW260 := n2_; have GE260 := n3_; clear n0_ n1_ n2_ n3_; clear hb hbox hg; have hcz5_0 : w4.cell? ⟨gb260, 0, none⟩ = some (.int .i64 a0_0) := (blk_cell BK260.out 0).trans rfl; have hcz5_1 : w4.cell? ⟨gb260, 1, none⟩ = some (.slice A0_1 l0_1.length c0_1) := (blk_cell BK260.out 1).trans rfl; have hfz5_0 := blk_frozen BK260.out 0; have hfz5_1 := blk_frozen BK260.out 1))
    go_ret
    exact ⟨by first | rfl | (simp [errW_none, errW_some] <;> rfl) | (simp [*, errW_none, errW_some] <;> rfl), by repeat (first | (with_reducible first | exact HB.out | apply below_alloc | apply pw_below_drewN | apply below_drew1 | refine below_set ?_ GE260.out) | exact HB.out)⟩
  · rw [if_neg c3] at H
    have c3b0 : decide (0 ≤ a1) = false := decide_eq_false c3
    clear c3
    obtain rfl := Option.some.inj H
    go_enter Try.func51, Try.ntmps51
    go_wp2_with (first | ((with_reducible refine gate_dst (N := 2) rfl ?_); refine box_event ?hg (N := 2) ?hd (cs := #[.int .i64 a0_0, .slice A0_1 l0_1.length c0_1]) (t := 24) ?hr ?_; (case hd => rfl); (case hg => rfl); (case hr => first | (go_simp; done) | (go_simp; rfl)); intro gb260 hg w6 hbox hb; have n0_ := Aside0.mk (below_step (by repeat (first | (with_reducible first | exact HB.out | apply below_alloc | apply pw_below_drewN | apply below_drew1) | exact HB.out)) hb); have n1_ := Aside0.mk (hbox); have n2_ := Aside0.mk ((by rw [hg]; exact (below_size (by repeat (first | (with_reducible first | exact HB.out | apply below_alloc | apply pw_below_drewN | apply below_drew1) | exact HB.out))) : w.heap.size ≤ gb260)); have n3_ := Aside0.mk ((by rw [hg]; exact (below_size (by repeat (first | (with_reducible first | exact HB.out | apply below_alloc | apply pw_below_drewN | apply below_drew1) | exact HB.out))) : w.heap.size ≤ gb260)); clear HB; have HB := n0_; have BK260 := n1_; have GW260 := n2_; have GE260 := n3_; clear n0_ n1_ n2_ n3_; clear hb hbox hg))
    go_ret
    exact ⟨by first | rfl | (simp [errW_none, errW_some] <;> rfl) | (simp [*, errW_none, errW_some] <;> rfl), by repeat (first | (with_reducible first | exact HB.out | apply below_alloc | apply pw_below_drewN | apply below_drew1 | refine below_set ?_ GE260.out) | exact HB.out)⟩

/-! ### forecourtref05_CheckYard: function 17 -/
mutual
def forecourtref05_CheckYard.j0 : Nat → Bool → Int → List (S58) → Option (Int)
  | 0, _, _, _ => none
  | k + 1, x12, x262000, x262001 => if x12 = true then (some 2) else (if (x262001.length : Int) > 40 then (some 6) else (forecourtref05_CheckYard.l0 k 0 x262000 x262001))
def forecourtref05_CheckYard.l0 : Nat → Int → Int → List (S58) → Option (Int)
  | 0, _, _, _ => none
  | k + 1, x3, x262000, x262001 => if x3 < (x262001.length : Int) then (if 0 ≤ x3 then ((forecourtref05_Is.f x262000 x262001 ((rd_T58 x262001 x3).f0)).bind fun t264 => (if t264 = true then ((forecourtref05_Is.f x262000 x262001 ((rd_T58 x262001 x3).f1)).bind fun t265 => (if t265 = true then (if ((rd_T58 x262001 x3).f0) = ((rd_T58 x262001 x3).f1) then (some 3) else (if ((rd_T58 x262001 x3).f2.f0) < 0 then (some 3) else (if ((rd_T58 x262001 x3).f2.f0) > ((rd_T58 x262001 x3).f2.f1) then (some 3) else (if ((rd_T58 x262001 x3).f2.f1) > 100000 then (some 3) else (forecourtref05_CheckYard.l0 k (wrap64 (x3 + 1)) x262000 x262001))))) else (some 3))) else (some 3))) else (none)) else (some 0)
end
def forecourtref05_CheckYard.f (k : Nat) (a0_0 : Int) (l0_1 : List (S58)) : Option (Int) := if a0_0 < 1 then (forecourtref05_CheckYard.j0 k true a0_0 l0_1) else (forecourtref05_CheckYard.j0 k (decide (a0_0 > 20)) a0_0 l0_1)
set_option maxHeartbeats 8000000 in
set_option maxRecDepth 100000 in
theorem forecourtref05_CheckYard.calls (k : Nat) (a0_0 : Int) (A0_1 : Option Addr) (c0_1 : Nat) (l0_1 : List (S58)) (r : Int) (w : World) (hr0_1 : Kd.C k58 w A0_1 l0_1.length l0_1) (hc0_1 : l0_1.length ≤ c0_1) (h : forecourtref05_CheckYard.f k a0_0 l0_1 = some r) :
    Calls Try.prog 17 #[.agg #[.int .i64 a0_0, .slice A0_1 l0_1.length c0_1]] w fun e w' => e = .returned (.int .i64 r) ∧ Below w.heap.size w w' := by
  have hu24 := Try.underlying24
  have hu58 := Try.underlying58
  have HR0_1 := Aside0.mk hr0_1
  have HC0_1 := Aside0.mk hc0_1
  clear hr0_1 hc0_1
  have HB := Aside0.mk (Below.refl w.heap.size w)
  have H : (if a0_0 < 1 then (forecourtref05_CheckYard.j0 k true a0_0 l0_1) else (forecourtref05_CheckYard.j0 k (decide (a0_0 > 20)) a0_0 l0_1)) = some r := h
  clear h
  have HC2 := Aside0.mk H
  clear H
  go_enter Try.func17, Try.ntmps17
  go_upto_region 1 with (first | ((with_reducible refine gate_dst (N := 1) rfl ?_); refine box_event ?hg (N := 1) ?hd (cs := #[.int .i64 a0_0, .slice A0_1 l0_1.length c0_1]) (t := 24) ?hr ?_; (case hd => rfl); (case hg => rfl); (case hr => first | (go_simp; done) | (go_simp; rfl)); intro gb261 hg w3 hbox hb; have n0_ := Aside0.mk (below_step (by repeat (first | (with_reducible first | exact HB.out | apply below_alloc | apply pw_below_drewN | apply below_drew1) | exact HB.out)) hb); have n1_ := Aside0.mk (hbox); have n2_ := Aside0.mk ((by rw [hg]; exact (below_size (by repeat (first | (with_reducible first | exact HB.out | apply below_alloc | apply pw_below_drewN | apply below_drew1) | exact HB.out))) : w.heap.size ≤ gb261)); have n3_ := Aside0.mk ((by rw [hg]; exact (below_size (by repeat (first | (with_reducible first | exact HB.out | apply below_alloc | apply pw_below_drewN | apply below_drew1) | exact HB.out))) : w.heap.size ≤ gb261)); clear HB; have HB := n0_; have BK261 := n1_; have GW261 := n2_; have GE261 := n3_; clear n0_ n1_ n2_ n3_; clear hb hbox hg))
  (try simp only [Act.put, List.setIfInBounds_toArray, List.set_cons_zero, List.set_cons_succ])
  go_cut [12] (fun v12 wc => ∃ (kq : Nat) (x12_1 : Bool), v12 = .bool x12_1 ∧ Aside0 (forecourtref05_CheckYard.j0 kq x12_1 a0_0 l0_1 = some r) ∧ Aside0 (kq ≤ k) ∧ Aside0 (wc.heap[gb261]? = some (.cells #[.int .i64 a0_0, (.slice A0_1 l0_1.length c0_1)] 24 (0, 0))) ∧ Aside0 (Below w.heap.size w wc))
  case first =>
    have H := HC2.out
    clear HC2
    by_cases c4 : a0_0 < 1
    · rw [if_pos c4] at H
      have c4b0 : decide (a0_0 < 1) = true := decide_eq_true c4
      clear c4
      (first | rw [c4b0] | (simp only [i64_w, i32_w]; rw [c4b0]) | skip)
      have H' := Aside0.mk H
      clear H
      have hcz5_0 : w3.cell? ⟨gb261, 0, none⟩ = some (.int .i64 a0_0) := (blk_cell BK261.out 0).trans rfl
      have hcz5_1 : w3.cell? ⟨gb261, 1, none⟩ = some (.slice A0_1 l0_1.length c0_1) := (blk_cell BK261.out 1).trans rfl
      have hfz5_0 := blk_frozen BK261.out 0
      have hfz5_1 := blk_frozen BK261.out 1
      go_wp2
      go_meet
      case rel => exact ⟨_, (true), (by first | rfl | (simp; done) | (simp [*]; done)), H', ⟨by first | omega | exact Nat.le_refl _⟩, ⟨by (with_reducible repeat (first | refine blk_drewN ?_ _ | refine blk_drew ?_ | refine blk_alloc ?_ _)); exact BK261.out⟩, ⟨by repeat (first | (with_reducible first | exact HB.out | apply below_alloc | apply pw_below_drewN | apply below_drew1 | refine below_set ?_ GE261.out) | exact HB.out)⟩⟩
    · rw [if_neg c4] at H
      have c4b0 : decide (a0_0 < 1) = false := decide_eq_false c4
      clear c4
      (first | rw [c4b0] | (simp only [i64_w, i32_w]; rw [c4b0]) | skip)
      have H' := Aside0.mk H
      clear H
      have hcz6_0 : w3.cell? ⟨gb261, 0, none⟩ = some (.int .i64 a0_0) := (blk_cell BK261.out 0).trans rfl
      have hcz6_1 : w3.cell? ⟨gb261, 1, none⟩ = some (.slice A0_1 l0_1.length c0_1) := (blk_cell BK261.out 1).trans rfl
      have hfz6_0 := blk_frozen BK261.out 0
      have hfz6_1 := blk_frozen BK261.out 1
      go_wp2
      go_meet
      case rel => exact ⟨_, (decide (a0_0 > 20)), (by first | rfl | (simp; done) | (simp [*]; done)), H', ⟨by first | omega | exact Nat.le_refl _⟩, ⟨by (with_reducible repeat (first | refine blk_drewN ?_ _ | refine blk_drew ?_ | refine blk_alloc ?_ _)); exact BK261.out⟩, ⟨by repeat (first | (with_reducible first | exact HB.out | apply below_alloc | apply pw_below_drewN | apply below_drew1 | refine below_set ?_ GE261.out) | exact HB.out)⟩⟩
  case rest =>
    clear HC2
    try clear c1
    try clear p2
    try clear c4
    try clear c4b0
    try clear hcz5_0
    try clear hcz5_1
    try clear hcz6_0
    try clear hcz6_1
    try clear hfz5_0
    try clear hfz5_1
    try clear hfz6_0
    try clear hfz6_1
    obtain ⟨kq, x12_1, rfl, HA, HJ1, BK261, HB⟩ := hcut
    cases kq with
    | zero => exact absurd HA.out (by simp [forecourtref05_CheckYard.j0])
    | succ kj1 =>
      have H := HA.out
      clear HA
      simp only [forecourtref05_CheckYard.j0] at H
      by_cases c7 : x12_1 = true
      · subst c7
        have H1 : (some 2) = some r := by rw [if_pos rfl] at H; exact H
        clear H
        have H := H1
        clear H1
        obtain rfl := Option.some.inj H
        go_wp2
        go_ret
        exact ⟨by first | rfl | (simp [errW_none, errW_some] <;> rfl) | (simp [*, errW_none, errW_some] <;> rfl), by repeat (first | (with_reducible first | exact HB.out | apply below_alloc | apply pw_below_drewN | apply below_drew1 | refine below_set ?_ GE261.out) | exact HB.out)⟩
      · replace c7 := Bool.eq_false_iff.mpr c7
        subst c7
        have H1 : (if (l0_1.length : Int) > 40 then (some 6) else (forecourtref05_CheckYard.l0 kj1 0 a0_0 l0_1)) = some r := by rw [if_neg (show ¬ (false = true) by decide)] at H; exact H
        clear H
        have H := H1
        clear H1
        by_cases c8 : (l0_1.length : Int) > 40
        · rw [if_pos c8] at H
          have c8b0 : decide (40 < (l0_1.length : Int)) = true := decide_eq_true c8
          have c8b1 : decide (40 < l0_1.length) = true := decide_eq_true (by omega)
          clear c8
          obtain rfl := Option.some.inj H
          have hcz9_0 : wc.cell? ⟨gb261, 0, none⟩ = some (.int .i64 a0_0) := (blk_cell BK261.out 0).trans rfl
          have hcz9_1 : wc.cell? ⟨gb261, 1, none⟩ = some (.slice A0_1 l0_1.length c0_1) := (blk_cell BK261.out 1).trans rfl
          have hfz9_0 := blk_frozen BK261.out 0
          have hfz9_1 := blk_frozen BK261.out 1
          go_wp2
          go_ret
          exact ⟨by first | rfl | (simp [errW_none, errW_some] <;> rfl) | (simp [*, errW_none, errW_some] <;> rfl), by repeat (first | (with_reducible first | exact HB.out | apply below_alloc | apply pw_below_drewN | apply below_drew1 | refine below_set ?_ GE261.out) | exact HB.out)⟩
        · rw [if_neg c8] at H
          have c8b0 : decide (40 < (l0_1.length : Int)) = false := decide_eq_false c8
          have c8b1 : decide (40 < l0_1.length) = false := decide_eq_false (by omega)
          clear c8
          have H' := Aside0.mk H
          clear H
          have hcz10_0 : wc.cell? ⟨gb261, 0, none⟩ = some (.int .i64 a0_0) := (blk_cell BK261.out 0).trans rfl
          have hcz10_1 : wc.cell? ⟨gb261, 1, none⟩ = some (.slice A0_1 l0_1.length c0_1) := (blk_cell BK261.out 1).trans rfl
          have hfz10_0 := blk_frozen BK261.out 0
          have hfz10_1 := blk_frozen BK261.out 1
          go_wp2
          go_loopg [3] kj1 (fun kq v3 w' => ∃ (x3_2 : Int), v3 = .int .i64 x3_2 ∧ Aside0 (forecourtref05_CheckYard.l0 kq x3_2 a0_0 l0_1 = some r) ∧ Aside0 (kq ≤ kj1) ∧ Aside0 (w'.heap[gb261]? = some (.cells #[.int .i64 a0_0, (.slice A0_1 l0_1.length c0_1)] 24 (0, 0))) ∧ Aside0 (Below w.heap.size w w'))
          case atStart => exact ⟨(0), (by first | rfl | (simp; done) | (simp [*]; done)), H', ⟨Nat.le_refl _⟩, ⟨by (with_reducible repeat (first | refine blk_drewN ?_ _ | refine blk_drew ?_ | refine blk_alloc ?_ _)); exact BK261.out⟩, ⟨by repeat (first | (with_reducible first | exact HB.out | apply below_alloc | apply pw_below_drewN | apply below_drew1 | refine below_set ?_ GE261.out) | exact HB.out)⟩⟩
          case round =>
            clear H'
            try clear c1
            try clear p2
            try clear c4
            try clear c4b0
            try clear c7
            try clear c8
            try clear c8b0
            try clear c8b1
            try clear hcz10_0
            try clear hcz10_1
            try clear hcz5_0
            try clear hcz5_1
            try clear hcz6_0
            try clear hcz6_1
            try clear hcz9_0
            try clear hcz9_1
            try clear hfz10_0
            try clear hfz10_1
            try clear hfz5_0
            try clear hfz5_1
            try clear hfz6_0
            try clear hfz6_1
            try clear hfz9_0
            try clear hfz9_1
            try clear p2
            obtain ⟨x3_2, rfl, HA, HK2, BK261, HB⟩ := hrel
            cases gk with
            | zero => exact absurd HA.out (by simp [forecourtref05_CheckYard.l0])
            | succ k2 =>
              have H := HA.out
              clear HA
              simp only [forecourtref05_CheckYard.l0] at H
              by_cases c11 : x3_2 < (l0_1.length : Int)
              · rw [if_pos c11] at H
                have c11b0 : decide (x3_2 < (l0_1.length : Int)) = true := decide_eq_true c11
                clear c11
                by_cases c12 : 0 ≤ x3_2
                · rw [if_pos c12] at H
                  have c12b0 : decide (0 ≤ x3_2) = true := decide_eq_true c12
                  clear c12
                  replace H := Option.bind_eq_some_iff.mp H
                  obtain ⟨t264, A130, H⟩ := H
                  replace H : (if t264 = true then ((forecourtref05_Is.f a0_0 l0_1 ((rd_T58 l0_1 x3_2).f1)).bind fun t265 => (if t265 = true then (if ((rd_T58 l0_1 x3_2).f0) = ((rd_T58 l0_1 x3_2).f1) then (some 3) else (if ((rd_T58 l0_1 x3_2).f2.f0) < 0 then (some 3) else (if ((rd_T58 l0_1 x3_2).f2.f0) > ((rd_T58 l0_1 x3_2).f2.f1) then (some 3) else (if ((rd_T58 l0_1 x3_2).f2.f1) > 100000 then (some 3) else (forecourtref05_CheckYard.l0 k2 (wrap64 (x3_2 + 1)) a0_0 l0_1))))) else (some 3))) else (some 3)) = some r := H
                  have A13 := Aside0.mk A130
                  clear A130
                  by_cases c14 : t264 = true
                  · subst c14
                    have H1 : ((forecourtref05_Is.f a0_0 l0_1 ((rd_T58 l0_1 x3_2).f1)).bind fun t265 => (if t265 = true then (if ((rd_T58 l0_1 x3_2).f0) = ((rd_T58 l0_1 x3_2).f1) then (some 3) else (if ((rd_T58 l0_1 x3_2).f2.f0) < 0 then (some 3) else (if ((rd_T58 l0_1 x3_2).f2.f0) > ((rd_T58 l0_1 x3_2).f2.f1) then (some 3) else (if ((rd_T58 l0_1 x3_2).f2.f1) > 100000 then (some 3) else (forecourtref05_CheckYard.l0 k2 (wrap64 (x3_2 + 1)) a0_0 l0_1))))) else (some 3))) = some r := by rw [if_pos rfl] at H; exact H
                    clear H
                    have H := H1
                    clear H1
                    replace H := Option.bind_eq_some_iff.mp H
                    obtain ⟨t265, A150, H⟩ := H
                    replace H : (if t265 = true then (if ((rd_T58 l0_1 x3_2).f0) = ((rd_T58 l0_1 x3_2).f1) then (some 3) else (if ((rd_T58 l0_1 x3_2).f2.f0) < 0 then (some 3) else (if ((rd_T58 l0_1 x3_2).f2.f0) > ((rd_T58 l0_1 x3_2).f2.f1) then (some 3) else (if ((rd_T58 l0_1 x3_2).f2.f1) > 100000 then (some 3) else (forecourtref05_CheckYard.l0 k2 (wrap64 (x3_2 + 1)) a0_0 l0_1))))) else (some 3)) = some r := H
                    have A15 := Aside0.mk A150
                    clear A150
                    by_cases c16 : t265 = true
                    · subst c16
                      have H1 : (if ((rd_T58 l0_1 x3_2).f0) = ((rd_T58 l0_1 x3_2).f1) then (some 3) else (if ((rd_T58 l0_1 x3_2).f2.f0) < 0 then (some 3) else (if ((rd_T58 l0_1 x3_2).f2.f0) > ((rd_T58 l0_1 x3_2).f2.f1) then (some 3) else (if ((rd_T58 l0_1 x3_2).f2.f1) > 100000 then (some 3) else (forecourtref05_CheckYard.l0 k2 (wrap64 (x3_2 + 1)) a0_0 l0_1))))) = some r := by rw [if_pos rfl] at H; exact H
                      clear H
                      have H := H1
                      clear H1
                      by_cases c17 : ((rd_T58 l0_1 x3_2).f0) = ((rd_T58 l0_1 x3_2).f1)
                      · rw [if_pos c17] at H
                        have c17b0 : (((rd_T58 l0_1 x3_2).f0) == ((rd_T58 l0_1 x3_2).f1)) = true := beq_iff_eq.mpr c17
                        have c17b1 : (((rd_T58 l0_1 x3_2).f0) != ((rd_T58 l0_1 x3_2).f1)) = false := bne_eq_false_iff_eq.mpr c17
                        clear c17
                        obtain rfl := Option.some.inj H
                        have hcz18_0 : wr.cell? ⟨gb261, 0, none⟩ = some (.int .i64 a0_0) := (blk_cell BK261.out 0).trans rfl
                        have hcz18_1 : wr.cell? ⟨gb261, 1, none⟩ = some (.slice A0_1 l0_1.length c0_1) := (blk_cell BK261.out 1).trans rfl
                        have hfz18_0 := blk_frozen BK261.out 0
                        have hfz18_1 := blk_frozen BK261.out 1
                        have p262 : 0 ≤ (x3_2 : Int) := of_decide_eq_true (by first | (with_reducible assumption) | assumption)
                        have q262 : x3_2 < (l0_1.length : Int) := of_decide_eq_true (by first | (with_reducible assumption) | assumption)
                        obtain ⟨ad262, e262, hx262_0, hx262_1, hx262_2, hx262_3⟩ := at_T58 HR0_1.out x3_2 p262 q262
                        cases e262
                        replace hx262_0 := (HB.out.cell (World.block_lt_of_cell? w _ hx262_0)).trans hx262_0
                        replace hx262_1 := (HB.out.cell (World.block_lt_of_cell? w _ hx262_1)).trans hx262_1
                        replace hx262_2 := (HB.out.cell (World.block_lt_of_cell? w _ hx262_2)).trans hx262_2
                        replace hx262_3 := (HB.out.cell (World.block_lt_of_cell? w _ hx262_3)).trans hx262_3
                        replace p262 := eq_true p262
                        replace q262 := eq_true q262
                        go_wp2_with (first | ((with_reducible refine gate_dst (N := 4) rfl ?_); refine box_event ?hg (N := 4) ?hd (cs := #[.int .i64 0, .int .i64 0, .int .i64 0, .int .i64 0]) (t := 58) ?hr ?_; (case hd => rfl); (case hg => rfl); (case hr => first | (go_simp; done) | (go_simp; rfl)); intro gb263 hg w19 hbox hb; have n0_ := Aside0.mk (blk_below (g := gb261) (o := .cells #[.int .i64 a0_0, .slice (some ad262) l0_1.length c0_1] 24 (0, 0)) (by (with_reducible repeat (first | refine blk_drewN ?_ _ | refine blk_drew ?_ | refine blk_alloc ?_ _)); exact BK261.out) hb); have n1_ := Aside0.mk (below_step (by repeat (first | (with_reducible first | exact HB.out | apply below_alloc | apply pw_below_drewN | apply below_drew1 | refine below_set ?_ GE261.out) | exact HB.out)) hb); have n2_ := Aside0.mk (hbox); have n3_ := Aside0.mk ((by rw [hg]; exact (below_size (by repeat (first | (with_reducible first | exact HB.out | apply below_alloc | apply pw_below_drewN | apply below_drew1 | refine below_set ?_ GE261.out) | exact HB.out))) : w.heap.size ≤ gb263)); have n4_ := Aside0.mk ((by rw [hg]; exact (below_size (by repeat (first | (with_reducible first | exact HB.out | apply below_alloc | apply pw_below_drewN | apply below_drew1 | refine below_set ?_ GE261.out) | exact HB.out))) : w.heap.size ≤ gb263)); have n5_ := Aside0.mk ((by rw [hg]; exact Nat.ne_of_lt (blk_lt (g := gb261) (o := .cells #[.int .i64 a0_0, .slice (some ad262) l0_1.length c0_1] 24 (0, 0)) (by (with_reducible repeat (first | refine blk_drewN ?_ _ | refine blk_drew ?_ | refine blk_alloc ?_ _)); exact BK261.out)) : gb261 ≠ gb263)); have n6_ := Aside0.mk ((by rw [hg]; exact Nat.ne_of_gt (blk_lt (g := gb261) (o := .cells #[.int .i64 a0_0, .slice (some ad262) l0_1.length c0_1] 24 (0, 0)) (by (with_reducible repeat (first | refine blk_drewN ?_ _ | refine blk_drew ?_ | refine blk_alloc ?_ _)); exact BK261.out)) : gb263 ≠ gb261)); clear BK261; clear HB; have BK261 := n0_; have HB := n1_; have BK263 := n2_; have GW263 := n3_; have GE263 := n4_; have NB261_263 := n5_; have NB263_261 := n6_; clear n0_ n1_ n2_ n3_ n4_ n5_ n6_; clear hb hbox hg; have hnb20 := NB263_261.out; have hnc20 := NB261_263.out; have hcz21_0 : w19.cell? ⟨gb263, 0, none⟩ = some (.int .i64 0) := (blk_cell BK263.out 0).trans rfl; have hcz21_1 : w19.cell? ⟨gb263, 1, none⟩ = some (.int .i64 0) := (blk_cell BK263.out 1).trans rfl; have hcz21_2 : w19.cell? ⟨gb263, 2, none⟩ = some (.int .i64 0) := (blk_cell BK263.out 2).trans rfl; have hcz21_3 : w19.cell? ⟨gb263, 3, none⟩ = some (.int .i64 0) := (blk_cell BK263.out 3).trans rfl; have hfz21_0 := blk_frozen BK263.out 0; have hfz21_1 := blk_frozen BK263.out 1; have hfz21_2 := blk_frozen BK263.out 2; have hfz21_3 := blk_frozen BK263.out 3; have hcz22_0 : w19.cell? ⟨gb261, 0, none⟩ = some (.int .i64 a0_0) := (blk_cell BK261.out 0).trans rfl; have hcz22_1 : w19.cell? ⟨gb261, 1, none⟩ = some (.slice (some ad262) l0_1.length c0_1) := (blk_cell BK261.out 1).trans rfl; have hfz22_0 := blk_frozen BK261.out 0; have hfz22_1 := blk_frozen BK261.out 1) | ((with_reducible refine gate_callee (f := 51) rfl ?_); refine goesL_ (some 32) rfl rfl Try.func51 (by kernel_rfl) rfl #[.agg #[.int .i64 a0_0, .slice (some ad262) l0_1.length c0_1], .int .i64 ((rd_T58 l0_1 x3_2).f0)] rfl (by (try simp only [List.map_toArray, List.map_cons, List.map_nil]); first | done | rfl | (simp only [List.length_drop, List.length_take]; rfl)) ?_; (with_reducible refine (forecourtref05_Is.calls a0_0 _ _ l0_1 ((rd_T58 l0_1 x3_2).f0) true _ ?side1 ?side2 A13.out).mono ?_); (case side1 => exact Kd.C_below HR0_1.out (by repeat (first | (with_reducible first | exact HB.out | apply below_alloc | apply pw_below_drewN | apply below_drew1 | refine below_set ?_ GE261.out | refine below_set ?_ GE263.out) | exact HB.out))); (case side2 => exact HC0_1.out); rintro e w23 ⟨rfl, hb⟩; refine ⟨_, rfl, ?_⟩; have n0_ := Aside0.mk (blk_below (g := gb261) (o := .cells #[.int .i64 a0_0, .slice (some ad262) l0_1.length c0_1] 24 (0, 0)) (by (with_reducible repeat (first | refine blk_drewN ?_ _ | refine blk_drew ?_ | refine blk_alloc ?_ _)); refine blk_far ?_ NB261_263.out _; (with_reducible repeat (first | refine blk_drewN ?_ _ | refine blk_drew ?_ | refine blk_alloc ?_ _)); refine blk_far ?_ NB261_263.out _; (with_reducible repeat (first | refine blk_drewN ?_ _ | refine blk_drew ?_ | refine blk_alloc ?_ _)); refine blk_far ?_ NB261_263.out _; (with_reducible repeat (first | refine blk_drewN ?_ _ | refine blk_drew ?_ | refine blk_alloc ?_ _)); refine blk_far ?_ NB261_263.out _; (with_reducible repeat (first | refine blk_drewN ?_ _ | refine blk_drew ?_ | refine blk_alloc ?_ _)); exact BK261.out) hb); have n1_ := Aside0.mk (blk_below (g := gb263) (o := .cells #[.int .i64 ((rd_T58 l0_1 x3_2).f0), .int .i64 ((rd_T58 l0_1 x3_2).f1), .int .i64 ((rd_T58 l0_1 x3_2).f2.f0), .int .i64 ((rd_T58 l0_1 x3_2).f2.f1)] 58 (0, 0)) (by (with_reducible repeat (first | refine blk_drewN ?_ _ | refine blk_drew ?_ | refine blk_alloc ?_ _)); refine blk_put (cs := #[.int .i64 ((rd_T58 l0_1 x3_2).f0), .int .i64 ((rd_T58 l0_1 x3_2).f1), .int .i64 ((rd_T58 l0_1 x3_2).f2.f0), .int .i64 0]) ?_ 3 _ rfl; (with_reducible repeat (first | refine blk_drewN ?_ _ | refine blk_drew ?_ | refine blk_alloc ?_ _)); refine blk_put (cs := #[.int .i64 ((rd_T58 l0_1 x3_2).f0), .int .i64 ((rd_T58 l0_1 x3_2).f1), .int .i64 0, .int .i64 0]) ?_ 2 _ rfl; (with_reducible repeat (first | refine blk_drewN ?_ _ | refine blk_drew ?_ | refine blk_alloc ?_ _)); refine blk_put (cs := #[.int .i64 ((rd_T58 l0_1 x3_2).f0), .int .i64 0, .int .i64 0, .int .i64 0]) ?_ 1 _ rfl; (with_reducible repeat (first | refine blk_drewN ?_ _ | refine blk_drew ?_ | refine blk_alloc ?_ _)); refine blk_put (cs := #[.int .i64 0, .int .i64 0, .int .i64 0, .int .i64 0]) ?_ 0 _ rfl; (with_reducible repeat (first | refine blk_drewN ?_ _ | refine blk_drew ?_ | refine blk_alloc ?_ _)); exact BK263.out) hb); have n2_ := Aside0.mk (below_step (by repeat (first | (with_reducible first | exact HB.out | apply below_alloc | apply pw_below_drewN | apply below_drew1 | refine below_set ?_ GE261.out | refine below_set ?_ GE263.out) | exact HB.out)) hb); clear BK261; clear BK263; clear HB; have BK261 := n0_; have BK263 := n1_; have HB := n2_; clear n0_ n1_ n2_; (try clear hb); (try clear hb2); (try clear hk); (try clear hi); have hcz24_0 : w23.cell? ⟨gb261, 0, none⟩ = some (.int .i64 a0_0) := (blk_cell BK261.out 0).trans rfl; have hcz24_1 : w23.cell? ⟨gb261, 1, none⟩ = some (.slice (some ad262) l0_1.length c0_1) := (blk_cell BK261.out 1).trans rfl; have hfz24_0 := blk_frozen BK261.out 0; have hfz24_1 := blk_frozen BK261.out 1; have hcz25_0 : w23.cell? ⟨gb263, 0, none⟩ = some (.int .i64 ((rd_T58 l0_1 x3_2).f0)) := (blk_cell BK263.out 0).trans rfl; have hcz25_1 : w23.cell? ⟨gb263, 1, none⟩ = some (.int .i64 ((rd_T58 l0_1 x3_2).f1)) := (blk_cell BK263.out 1).trans rfl; have hcz25_2 : w23.cell? ⟨gb263, 2, none⟩ = some (.int .i64 ((rd_T58 l0_1 x3_2).f2.f0)) := (blk_cell BK263.out 2).trans rfl; have hcz25_3 : w23.cell? ⟨gb263, 3, none⟩ = some (.int .i64 ((rd_T58 l0_1 x3_2).f2.f1)) := (blk_cell BK263.out 3).trans rfl; have hfz25_0 := blk_frozen BK263.out 0; have hfz25_1 := blk_frozen BK263.out 1; have hfz25_2 := blk_frozen BK263.out 2; have hfz25_3 := blk_frozen BK263.out 3) | (go_at_call 51; (with_reducible refine (forecourtref05_Is.calls a0_0 _ _ l0_1 ((rd_T58 l0_1 x3_2).f1) true _ ?side1 ?side2 A15.out).mono ?_); (case side1 => repeat (first | exact (Kd.C_below HR0_1.out HB.out) | (with_reducible refine Kd.C_alloc ?_ _) | (with_reducible refine Kd.C_drewN ?_ _) | (with_reducible refine Kd.C_drew ?_))); (case side2 => exact HC0_1.out); rintro e w26 ⟨rfl, hb⟩; have n0_ := Aside0.mk (blk_below (g := gb261) (o := .cells #[.int .i64 a0_0, .slice (some ad262) l0_1.length c0_1] 24 (0, 0)) (by (with_reducible repeat (first | refine blk_drewN ?_ _ | refine blk_drew ?_ | refine blk_alloc ?_ _)); exact BK261.out) hb); have n1_ := Aside0.mk (blk_below (g := gb263) (o := .cells #[.int .i64 ((rd_T58 l0_1 x3_2).f0), .int .i64 ((rd_T58 l0_1 x3_2).f1), .int .i64 ((rd_T58 l0_1 x3_2).f2.f0), .int .i64 ((rd_T58 l0_1 x3_2).f2.f1)] 58 (0, 0)) (by (with_reducible repeat (first | refine blk_drewN ?_ _ | refine blk_drew ?_ | refine blk_alloc ?_ _)); exact BK263.out) hb); have n2_ := Aside0.mk (below_step (by repeat (first | (with_reducible first | exact HB.out | apply below_alloc | apply pw_below_drewN | apply below_drew1 | refine below_set ?_ GE261.out | refine below_set ?_ GE263.out) | exact HB.out)) hb); clear BK261; clear BK263; clear HB; have BK261 := n0_; have BK263 := n1_; have HB := n2_; clear n0_ n1_ n2_; (try clear hb); (try clear hb2); (try clear hk); (try clear hi); have hcz27_0 : w26.cell? ⟨gb263, 0, none⟩ = some (.int .i64 ((rd_T58 l0_1 x3_2).f0)) := (blk_cell BK263.out 0).trans rfl; have hcz27_1 : w26.cell? ⟨gb263, 1, none⟩ = some (.int .i64 ((rd_T58 l0_1 x3_2).f1)) := (blk_cell BK263.out 1).trans rfl; have hcz27_2 : w26.cell? ⟨gb263, 2, none⟩ = some (.int .i64 ((rd_T58 l0_1 x3_2).f2.f0)) := (blk_cell BK263.out 2).trans rfl; have hcz27_3 : w26.cell? ⟨gb263, 3, none⟩ = some (.int .i64 ((rd_T58 l0_1 x3_2).f2.f1)) := (blk_cell BK263.out 3).trans rfl; have hfz27_0 := blk_frozen BK263.out 0; have hfz27_1 := blk_frozen BK263.out 1; have hfz27_2 := blk_frozen BK263.out 2; have hfz27_3 := blk_frozen BK263.out 3))
                        go_ret
                        exact ⟨by first | rfl | (simp [errW_none, errW_some] <;> rfl) | (simp [*, errW_none, errW_some] <;> rfl), by repeat (first | (with_reducible first | exact HB.out | apply below_alloc | apply pw_below_drewN | apply below_drew1 | refine below_set ?_ GE261.out | refine below_set ?_ GE263.out) | exact HB.out)⟩
                      · rw [if_neg c17] at H
                        have c17b0 : (((rd_T58 l0_1 x3_2).f0) == ((rd_T58 l0_1 x3_2).f1)) = false := beq_eq_false_iff_ne.mpr c17
                        have c17b1 : (((rd_T58 l0_1 x3_2).f0) != ((rd_T58 l0_1 x3_2).f1)) = true := bne_iff_ne.mpr c17
                        by_cases c28 : ((rd_T58 l0_1 x3_2).f2.f0) < 0
                        · rw [if_pos c28] at H
                          have c28b0 : decide (((rd_T58 l0_1 x3_2).f2.f0) < 0) = true := decide_eq_true c28
                          clear c28
                          obtain rfl := Option.some.inj H
                          have hcz29_0 : wr.cell? ⟨gb261, 0, none⟩ = some (.int .i64 a0_0) := (blk_cell BK261.out 0).trans rfl
                          have hcz29_1 : wr.cell? ⟨gb261, 1, none⟩ = some (.slice A0_1 l0_1.length c0_1) := (blk_cell BK261.out 1).trans rfl
                          have hfz29_0 := blk_frozen BK261.out 0
                          have hfz29_1 := blk_frozen BK261.out 1
                          have p262 : 0 ≤ (x3_2 : Int) := of_decide_eq_true (by first | (with_reducible assumption) | assumption)
                          have q262 : x3_2 < (l0_1.length : Int) := of_decide_eq_true (by first | (with_reducible assumption) | assumption)
                          obtain ⟨ad262, e262, hx262_0, hx262_1, hx262_2, hx262_3⟩ := at_T58 HR0_1.out x3_2 p262 q262
                          cases e262
                          replace hx262_0 := (HB.out.cell (World.block_lt_of_cell? w _ hx262_0)).trans hx262_0
                          replace hx262_1 := (HB.out.cell (World.block_lt_of_cell? w _ hx262_1)).trans hx262_1
                          replace hx262_2 := (HB.out.cell (World.block_lt_of_cell? w _ hx262_2)).trans hx262_2
                          replace hx262_3 := (HB.out.cell (World.block_lt_of_cell? w _ hx262_3)).trans hx262_3
                          replace p262 := eq_true p262
                          replace q262 := eq_true q262
                          go_wp2_with (first | ((with_reducible refine gate_dst (N := 4) rfl ?_); refine box_event ?hg (N := 4) ?hd (cs := #[.int .i64 0, .int .i64 0, .int .i64 0, .int .i64 0]) (t := 58) ?hr ?_; (case hd => rfl); (case hg => rfl); (case hr => first | (go_simp; done) | (go_simp; rfl)); intro gb263 hg w30 hbox hb; have n0_ := Aside0.mk (blk_below (g := gb261) (o := .cells #[.int .i64 a0_0, .slice (some ad262) l0_1.length c0_1] 24 (0, 0)) (by (with_reducible repeat (first | refine blk_drewN ?_ _ | refine blk_drew ?_ | refine blk_alloc ?_ _)); exact BK261.out) hb); have n1_ := Aside0.mk (below_step (by repeat (first | (with_reducible first | exact HB.out | apply below_alloc | apply pw_below_drewN | apply below_drew1 | refine below_set ?_ GE261.out) | exact HB.out)) hb); have n2_ := Aside0.mk (hbox); have n3_ := Aside0.mk ((by rw [hg]; exact (below_size (by repeat (first | (with_reducible first | exact HB.out | apply below_alloc | apply pw_below_drewN | apply below_drew1 | refine below_set ?_ GE261.out) | exact HB.out))) : w.heap.size ≤ gb263)); have n4_ := Aside0.mk ((by rw [hg]; exact (below_size (by repeat (first | (with_reducible first | exact HB.out | apply below_alloc | apply pw_below_drewN | apply below_drew1 | refine below_set ?_ GE261.out) | exact HB.out))) : w.heap.size ≤ gb263)); have n5_ := Aside0.mk ((by rw [hg]; exact Nat.ne_of_lt (blk_lt (g := gb261) (o := .cells #[.int .i64 a0_0, .slice (some ad262) l0_1.length c0_1] 24 (0, 0)) (by (with_reducible repeat (first | refine blk_drewN ?_ _ | refine blk_drew ?_ | refine blk_alloc ?_ _)); exact BK261.out)) : gb261 ≠ gb263)); have n6_ := Aside0.mk ((by rw [hg]; exact Nat.ne_of_gt (blk_lt (g := gb261) (o := .cells #[.int .i64 a0_0, .slice (some ad262) l0_1.length c0_1] 24 (0, 0)) (by (with_reducible repeat (first | refine blk_drewN ?_ _ | refine blk_drew ?_ | refine blk_alloc ?_ _)); exact BK261.out)) : gb263 ≠ gb261)); clear BK261; clear HB; have BK261 := n0_; have HB := n1_; have BK263 := n2_; have GW263 := n3_; have GE263 := n4_; have NB261_263 := n5_; have NB263_261 := n6_; clear n0_ n1_ n2_ n3_ n4_ n5_ n6_; clear hb hbox hg; have hnb31 := NB263_261.out; have hnc31 := NB261_263.out; have hcz32_0 : w30.cell? ⟨gb263, 0, none⟩ = some (.int .i64 0) := (blk_cell BK263.out 0).trans rfl; have hcz32_1 : w30.cell? ⟨gb263, 1, none⟩ = some (.int .i64 0) := (blk_cell BK263.out 1).trans rfl; have hcz32_2 : w30.cell? ⟨gb263, 2, none⟩ = some (.int .i64 0) := (blk_cell BK263.out 2).trans rfl; have hcz32_3 : w30.cell? ⟨gb263, 3, none⟩ = some (.int .i64 0) := (blk_cell BK263.out 3).trans rfl; have hfz32_0 := blk_frozen BK263.out 0; have hfz32_1 := blk_frozen BK263.out 1; have hfz32_2 := blk_frozen BK263.out 2; have hfz32_3 := blk_frozen BK263.out 3; have hcz33_0 : w30.cell? ⟨gb261, 0, none⟩ = some (.int .i64 a0_0) := (blk_cell BK261.out 0).trans rfl; have hcz33_1 : w30.cell? ⟨gb261, 1, none⟩ = some (.slice (some ad262) l0_1.length c0_1) := (blk_cell BK261.out 1).trans rfl; have hfz33_0 := blk_frozen BK261.out 0; have hfz33_1 := blk_frozen BK261.out 1) | ((with_reducible refine gate_callee (f := 51) rfl ?_); refine goesL_ (some 32) rfl rfl Try.func51 (by kernel_rfl) rfl #[.agg #[.int .i64 a0_0, .slice (some ad262) l0_1.length c0_1], .int .i64 ((rd_T58 l0_1 x3_2).f0)] rfl (by (try simp only [List.map_toArray, List.map_cons, List.map_nil]); first | done | rfl | (simp only [List.length_drop, List.length_take]; rfl)) ?_; (with_reducible refine (forecourtref05_Is.calls a0_0 _ _ l0_1 ((rd_T58 l0_1 x3_2).f0) true _ ?side1 ?side2 A13.out).mono ?_); (case side1 => exact Kd.C_below HR0_1.out (by repeat (first | (with_reducible first | exact HB.out | apply below_alloc | apply pw_below_drewN | apply below_drew1 | refine below_set ?_ GE261.out | refine below_set ?_ GE263.out) | exact HB.out))); (case side2 => exact HC0_1.out); rintro e w34 ⟨rfl, hb⟩; refine ⟨_, rfl, ?_⟩; have n0_ := Aside0.mk (blk_below (g := gb261) (o := .cells #[.int .i64 a0_0, .slice (some ad262) l0_1.length c0_1] 24 (0, 0)) (by (with_reducible repeat (first | refine blk_drewN ?_ _ | refine blk_drew ?_ | refine blk_alloc ?_ _)); refine blk_far ?_ NB261_263.out _; (with_reducible repeat (first | refine blk_drewN ?_ _ | refine blk_drew ?_ | refine blk_alloc ?_ _)); refine blk_far ?_ NB261_263.out _; (with_reducible repeat (first | refine blk_drewN ?_ _ | refine blk_drew ?_ | refine blk_alloc ?_ _)); refine blk_far ?_ NB261_263.out _; (with_reducible repeat (first | refine blk_drewN ?_ _ | refine blk_drew ?_ | refine blk_alloc ?_ _)); refine blk_far ?_ NB261_263.out _; (with_reducible repeat (first | refine blk_drewN ?_ _ | refine blk_drew ?_ | refine blk_alloc ?_ _)); exact BK261.out) hb); have n1_ := Aside0.mk (blk_below (g := gb263) (o := .cells #[.int .i64 ((rd_T58 l0_1 x3_2).f0), .int .i64 ((rd_T58 l0_1 x3_2).f1), .int .i64 ((rd_T58 l0_1 x3_2).f2.f0), .int .i64 ((rd_T58 l0_1 x3_2).f2.f1)] 58 (0, 0)) (by (with_reducible repeat (first | refine blk_drewN ?_ _ | refine blk_drew ?_ | refine blk_alloc ?_ _)); refine blk_put (cs := #[.int .i64 ((rd_T58 l0_1 x3_2).f0), .int .i64 ((rd_T58 l0_1 x3_2).f1), .int .i64 ((rd_T58 l0_1 x3_2).f2.f0), .int .i64 0]) ?_ 3 _ rfl; (with_reducible repeat (first | refine blk_drewN ?_ _ | refine blk_drew ?_ | refine blk_alloc ?_ _)); refine blk_put (cs := #[.int .i64 ((rd_T58 l0_1 x3_2).f0), .int .i64 ((rd_T58 l0_1 x3_2).f1), .int .i64 0, .int .i64 0]) ?_ 2 _ rfl; (with_reducible repeat (first | refine blk_drewN ?_ _ | refine blk_drew ?_ | refine blk_alloc ?_ _)); refine blk_put (cs := #[.int .i64 ((rd_T58 l0_1 x3_2).f0), .int .i64 0, .int .i64 0, .int .i64 0]) ?_ 1 _ rfl; (with_reducible repeat (first | refine blk_drewN ?_ _ | refine blk_drew ?_ | refine blk_alloc ?_ _)); refine blk_put (cs := #[.int .i64 0, .int .i64 0, .int .i64 0, .int .i64 0]) ?_ 0 _ rfl; (with_reducible repeat (first | refine blk_drewN ?_ _ | refine blk_drew ?_ | refine blk_alloc ?_ _)); exact BK263.out) hb); have n2_ := Aside0.mk (below_step (by repeat (first | (with_reducible first | exact HB.out | apply below_alloc | apply pw_below_drewN | apply below_drew1 | refine below_set ?_ GE261.out | refine below_set ?_ GE263.out) | exact HB.out)) hb); clear BK261; clear BK263; clear HB; have BK261 := n0_; have BK263 := n1_; have HB := n2_; clear n0_ n1_ n2_; (try clear hb); (try clear hb2); (try clear hk); (try clear hi); have hcz35_0 : w34.cell? ⟨gb261, 0, none⟩ = some (.int .i64 a0_0) := (blk_cell BK261.out 0).trans rfl; have hcz35_1 : w34.cell? ⟨gb261, 1, none⟩ = some (.slice (some ad262) l0_1.length c0_1) := (blk_cell BK261.out 1).trans rfl; have hfz35_0 := blk_frozen BK261.out 0; have hfz35_1 := blk_frozen BK261.out 1; have hcz36_0 : w34.cell? ⟨gb263, 0, none⟩ = some (.int .i64 ((rd_T58 l0_1 x3_2).f0)) := (blk_cell BK263.out 0).trans rfl; have hcz36_1 : w34.cell? ⟨gb263, 1, none⟩ = some (.int .i64 ((rd_T58 l0_1 x3_2).f1)) := (blk_cell BK263.out 1).trans rfl; have hcz36_2 : w34.cell? ⟨gb263, 2, none⟩ = some (.int .i64 ((rd_T58 l0_1 x3_2).f2.f0)) := (blk_cell BK263.out 2).trans rfl; have hcz36_3 : w34.cell? ⟨gb263, 3, none⟩ = some (.int .i64 ((rd_T58 l0_1 x3_2).f2.f1)) := (blk_cell BK263.out 3).trans rfl; have hfz36_0 := blk_frozen BK263.out 0; have hfz36_1 := blk_frozen BK263.out 1; have hfz36_2 := blk_frozen BK263.out 2; have hfz36_3 := blk_frozen BK263.out 3) | (go_at_call 51; (with_reducible refine (forecourtref05_Is.calls a0_0 _ _ l0_1 ((rd_T58 l0_1 x3_2).f1) true _ ?side1 ?side2 A15.out).mono ?_); (case side1 => repeat (first | exact (Kd.C_below HR0_1.out HB.out) | (with_reducible refine Kd.C_alloc ?_ _) | (with_reducible refine Kd.C_drewN ?_ _) | (with_reducible refine Kd.C_drew ?_))); (case side2 => exact HC0_1.out); rintro e w37 ⟨rfl, hb⟩; have n0_ := Aside0.mk (blk_below (g := gb261) (o := .cells #[.int .i64 a0_0, .slice (some ad262) l0_1.length c0_1] 24 (0, 0)) (by (with_reducible repeat (first | refine blk_drewN ?_ _ | refine blk_drew ?_ | refine blk_alloc ?_ _)); exact BK261.out) hb); have n1_ := Aside0.mk (blk_below (g := gb263) (o := .cells #[.int .i64 ((rd_T58 l0_1 x3_2).f0), .int .i64 ((rd_T58 l0_1 x3_2).f1), .int .i64 ((rd_T58 l0_1 x3_2).f2.f0), .int .i64 ((rd_T58 l0_1 x3_2).f2.f1)] 58 (0, 0)) (by (with_reducible repeat (first | refine blk_drewN ?_ _ | refine blk_drew ?_ | refine blk_alloc ?_ _)); exact BK263.out) hb); have n2_ := Aside0.mk (below_step (by repeat (first | (with_reducible first | exact HB.out | apply below_alloc | apply pw_below_drewN | apply below_drew1 | refine below_set ?_ GE261.out | refine below_set ?_ GE263.out) | exact HB.out)) hb); clear BK261; clear BK263; clear HB; have BK261 := n0_; have BK263 := n1_; have HB := n2_; clear n0_ n1_ n2_; (try clear hb); (try clear hb2); (try clear hk); (try clear hi); have hcz38_0 : w37.cell? ⟨gb263, 0, none⟩ = some (.int .i64 ((rd_T58 l0_1 x3_2).f0)) := (blk_cell BK263.out 0).trans rfl; have hcz38_1 : w37.cell? ⟨gb263, 1, none⟩ = some (.int .i64 ((rd_T58 l0_1 x3_2).f1)) := (blk_cell BK263.out 1).trans rfl; have hcz38_2 : w37.cell? ⟨gb263, 2, none⟩ = some (.int .i64 ((rd_T58 l0_1 x3_2).f2.f0)) := (blk_cell BK263.out 2).trans rfl; have hcz38_3 : w37.cell? ⟨gb263, 3, none⟩ = some (.int .i64 ((rd_T58 l0_1 x3_2).f2.f1)) := (blk_cell BK263.out 3).trans rfl; have hfz38_0 := blk_frozen BK263.out 0; have hfz38_1 := blk_frozen BK263.out 1; have hfz38_2 := blk_frozen BK263.out 2; have hfz38_3 := blk_frozen BK263.out 3))
                          go_ret
                          exact ⟨by first | rfl | (simp [errW_none, errW_some] <;> rfl) | (simp [*, errW_none, errW_some] <;> rfl), by repeat (first | (with_reducible first | exact HB.out | apply below_alloc | apply pw_below_drewN | apply below_drew1 | refine below_set ?_ GE261.out | refine below_set ?_ GE263.out) | exact HB.out)⟩
                        · rw [if_neg c28] at H
                          have c28b0 : decide (((rd_T58 l0_1 x3_2).f2.f0) < 0) = false := decide_eq_false c28
                          clear c28
                          by_cases c39 : ((rd_T58 l0_1 x3_2).f2.f0) > ((rd_T58 l0_1 x3_2).f2.f1)
                          · rw [if_pos c39] at H
                            have c39b0 : decide (((rd_T58 l0_1 x3_2).f2.f1) < ((rd_T58 l0_1 x3_2).f2.f0)) = true := decide_eq_true c39
                            clear c39
                            obtain rfl := Option.some.inj H
                            have hcz40_0 : wr.cell? ⟨gb261, 0, none⟩ = some (.int .i64 a0_0) := (blk_cell BK261.out 0).trans rfl
                            have hcz40_1 : wr.cell? ⟨gb261, 1, none⟩ = some (.slice A0_1 l0_1.length c0_1) := (blk_cell BK261.out 1).trans rfl
                            have hfz40_0 := blk_frozen BK261.out 0
                            have hfz40_1 := blk_frozen BK261.out 1
                            have p262 : 0 ≤ (x3_2 : Int) := of_decide_eq_true (by first | (with_reducible assumption) | assumption)
                            have q262 : x3_2 < (l0_1.length : Int) := of_decide_eq_true (by first | (with_reducible assumption) | assumption)
                            obtain ⟨ad262, e262, hx262_0, hx262_1, hx262_2, hx262_3⟩ := at_T58 HR0_1.out x3_2 p262 q262
                            cases e262
                            replace hx262_0 := (HB.out.cell (World.block_lt_of_cell? w _ hx262_0)).trans hx262_0
                            replace hx262_1 := (HB.out.cell (World.block_lt_of_cell? w _ hx262_1)).trans hx262_1
                            replace hx262_2 := (HB.out.cell (World.block_lt_of_cell? w _ hx262_2)).trans hx262_2
                            replace hx262_3 := (HB.out.cell (World.block_lt_of_cell? w _ hx262_3)).trans hx262_3
                            replace p262 := eq_true p262
                            replace q262 := eq_true q262
                            go_wp2_with (first | ((with_reducible refine gate_dst (N := 4) rfl ?_); refine box_event ?hg (N := 4) ?hd (cs := #[.int .i64 0, .int .i64 0, .int .i64 0, .int .i64 0]) (t := 58) ?hr ?_; (case hd => rfl); (case hg => rfl); (case hr => first | (go_simp; done) | (go_simp; rfl)); intro gb263 hg w41 hbox hb; have n0_ := Aside0.mk (blk_below (g := gb261) (o := .cells #[.int .i64 a0_0, .slice (some ad262) l0_1.length c0_1] 24 (0, 0)) (by (with_reducible repeat (first | refine blk_drewN ?_ _ | refine blk_drew ?_ | refine blk_alloc ?_ _)); exact BK261.out) hb); have n1_ := Aside0.mk (below_step (by repeat (first | (with_reducible first | exact HB.out | apply below_alloc | apply pw_below_drewN | apply below_drew1 | refine below_set ?_ GE261.out) | exact HB.out)) hb); have n2_ := Aside0.mk (hbox); have n3_ := Aside0.mk ((by rw [hg]; exact (below_size (by repeat (first | (with_reducible first | exact HB.out | apply below_alloc | apply pw_below_drewN | apply below_drew1 | refine below_set ?_ GE261.out) | exact HB.out))) : w.heap.size ≤ gb263)); have n4_ := Aside0.mk ((by rw [hg]; exact (below_size (by repeat (first | (with_reducible first | exact HB.out | apply below_alloc | apply pw_below_drewN | apply below_drew1 | refine below_set ?_ GE261.out) | exact HB.out))) : w.heap.size ≤ gb263)); have n5_ := Aside0.mk ((by rw [hg]; exact Nat.ne_of_lt (blk_lt (g := gb261) (o := .cells #[.int .i64 a0_0, .slice (some ad262) l0_1.length c0_1] 24 (0, 0)) (by (with_reducible repeat (first | refine blk_drewN ?_ _ | refine blk_drew ?_ | refine blk_alloc ?_ _)); exact BK261.out)) : gb261 ≠ gb263)); have n6_ := Aside0.mk ((by rw [hg]; exact Nat.ne_of_gt (blk_lt (g := gb261) (o := .cells #[.int .i64 a0_0, .slice (some ad262) l0_1.length c0_1] 24 (0, 0)) (by (with_reducible repeat (first | refine blk_drewN ?_ _ | refine blk_drew ?_ | refine blk_alloc ?_ _)); exact BK261.out)) : gb263 ≠ gb261)); clear BK261; clear HB; have BK261 := n0_; have HB := n1_; have BK263 := n2_; have GW263 := n3_; have GE263 := n4_; have NB261_263 := n5_; have NB263_261 := n6_; clear n0_ n1_ n2_ n3_ n4_ n5_ n6_; clear hb hbox hg; have hnb42 := NB263_261.out; have hnc42 := NB261_263.out; have hcz43_0 : w41.cell? ⟨gb263, 0, none⟩ = some (.int .i64 0) := (blk_cell BK263.out 0).trans rfl; have hcz43_1 : w41.cell? ⟨gb263, 1, none⟩ = some (.int .i64 0) := (blk_cell BK263.out 1).trans rfl; have hcz43_2 : w41.cell? ⟨gb263, 2, none⟩ = some (.int .i64 0) := (blk_cell BK263.out 2).trans rfl; have hcz43_3 : w41.cell? ⟨gb263, 3, none⟩ = some (.int .i64 0) := (blk_cell BK263.out 3).trans rfl; have hfz43_0 := blk_frozen BK263.out 0; have hfz43_1 := blk_frozen BK263.out 1; have hfz43_2 := blk_frozen BK263.out 2; have hfz43_3 := blk_frozen BK263.out 3; have hcz44_0 : w41.cell? ⟨gb261, 0, none⟩ = some (.int .i64 a0_0) := (blk_cell BK261.out 0).trans rfl; have hcz44_1 : w41.cell? ⟨gb261, 1, none⟩ = some (.slice (some ad262) l0_1.length c0_1) := (blk_cell BK261.out 1).trans rfl; have hfz44_0 := blk_frozen BK261.out 0; have hfz44_1 := blk_frozen BK261.out 1) | ((with_reducible refine gate_callee (f := 51) rfl ?_); refine goesL_ (some 32) rfl rfl Try.func51 (by kernel_rfl) rfl #[.agg #[.int .i64 a0_0, .slice (some ad262) l0_1.length c0_1], .int .i64 ((rd_T58 l0_1 x3_2).f0)] rfl (by (try simp only [List.map_toArray, List.map_cons, List.map_nil]); first | done | rfl | (simp only [List.length_drop, List.length_take]; rfl)) ?_; (with_reducible refine (forecourtref05_Is.calls a0_0 _ _ l0_1 ((rd_T58 l0_1 x3_2).f0) true _ ?side1 ?side2 A13.out).mono ?_); (case side1 => exact Kd.C_below HR0_1.out (by repeat (first | (with_reducible first | exact HB.out | apply below_alloc | apply pw_below_drewN | apply below_drew1 | refine below_set ?_ GE261.out | refine below_set ?_ GE263.out) | exact HB.out))); (case side2 => exact HC0_1.out); rintro e w45 ⟨rfl, hb⟩; refine ⟨_, rfl, ?_⟩; have n0_ := Aside0.mk (blk_below (g := gb261) (o := .cells #[.int .i64 a0_0, .slice (some ad262) l0_1.length c0_1] 24 (0, 0)) (by (with_reducible repeat (first | refine blk_drewN ?_ _ | refine blk_drew ?_ | refine blk_alloc ?_ _)); refine blk_far ?_ NB261_263.out _; (with_reducible repeat (first | refine blk_drewN ?_ _ | refine blk_drew ?_ | refine blk_alloc ?_ _)); refine blk_far ?_ NB261_263.out _; (with_reducible repeat (first | refine blk_drewN ?_ _ | refine blk_drew ?_ | refine blk_alloc ?_ _)); refine blk_far ?_ NB261_263.out _; (with_reducible repeat (first | refine blk_drewN ?_ _ | refine blk_drew ?_ | refine blk_alloc ?_ _)); refine blk_far ?_ NB261_263.out _; (with_reducible repeat (first | refine blk_drewN ?_ _ | refine blk_drew ?_ | refine blk_alloc ?_ _)); exact BK261.out) hb); have n1_ := Aside0.mk (blk_below (g := gb263) (o := .cells #[.int .i64 ((rd_T58 l0_1 x3_2).f0), .int .i64 ((rd_T58 l0_1 x3_2).f1), .int .i64 ((rd_T58 l0_1 x3_2).f2.f0), .int .i64 ((rd_T58 l0_1 x3_2).f2.f1)] 58 (0, 0)) (by (with_reducible repeat (first | refine blk_drewN ?_ _ | refine blk_drew ?_ | refine blk_alloc ?_ _)); refine blk_put (cs := #[.int .i64 ((rd_T58 l0_1 x3_2).f0), .int .i64 ((rd_T58 l0_1 x3_2).f1), .int .i64 ((rd_T58 l0_1 x3_2).f2.f0), .int .i64 0]) ?_ 3 _ rfl; (with_reducible repeat (first | refine blk_drewN ?_ _ | refine blk_drew ?_ | refine blk_alloc ?_ _)); refine blk_put (cs := #[.int .i64 ((rd_T58 l0_1 x3_2).f0), .int .i64 ((rd_T58 l0_1 x3_2).f1), .int .i64 0, .int .i64 0]) ?_ 2 _ rfl; (with_reducible repeat (first | refine blk_drewN ?_ _ | refine blk_drew ?_ | refine blk_alloc ?_ _)); refine blk_put (cs := #[.int .i64 ((rd_T58 l0_1 x3_2).f0), .int .i64 0, .int .i64 0, .int .i64 0]) ?_ 1 _ rfl; (with_reducible repeat (first | refine blk_drewN ?_ _ | refine blk_drew ?_ | refine blk_alloc ?_ _)); refine blk_put (cs := #[.int .i64 0, .int .i64 0, .int .i64 0, .int .i64 0]) ?_ 0 _ rfl; (with_reducible repeat (first | refine blk_drewN ?_ _ | refine blk_drew ?_ | refine blk_alloc ?_ _)); exact BK263.out) hb); have n2_ := Aside0.mk (below_step (by repeat (first | (with_reducible first | exact HB.out | apply below_alloc | apply pw_below_drewN | apply below_drew1 | refine below_set ?_ GE261.out | refine below_set ?_ GE263.out) | exact HB.out)) hb); clear BK261; clear BK263; clear HB; have BK261 := n0_; have BK263 := n1_; have HB := n2_; clear n0_ n1_ n2_; (try clear hb); (try clear hb2); (try clear hk); (try clear hi); have hcz46_0 : w45.cell? ⟨gb261, 0, none⟩ = some (.int .i64 a0_0) := (blk_cell BK261.out 0).trans rfl; have hcz46_1 : w45.cell? ⟨gb261, 1, none⟩ = some (.slice (some ad262) l0_1.length c0_1) := (blk_cell BK261.out 1).trans rfl; have hfz46_0 := blk_frozen BK261.out 0; have hfz46_1 := blk_frozen BK261.out 1; have hcz47_0 : w45.cell? ⟨gb263, 0, none⟩ = some (.int .i64 ((rd_T58 l0_1 x3_2).f0)) := (blk_cell BK263.out 0).trans rfl; have hcz47_1 : w45.cell? ⟨gb263, 1, none⟩ = some (.int .i64 ((rd_T58 l0_1 x3_2).f1)) := (blk_cell BK263.out 1).trans rfl; have hcz47_2 : w45.cell? ⟨gb263, 2, none⟩ = some (.int .i64 ((rd_T58 l0_1 x3_2).f2.f0)) := (blk_cell BK263.out 2).trans rfl; have hcz47_3 : w45.cell? ⟨gb263, 3, none⟩ = some (.int .i64 ((rd_T58 l0_1 x3_2).f2.f1)) := (blk_cell BK263.out 3).trans rfl; have hfz47_0 := blk_frozen BK263.out 0; have hfz47_1 := blk_frozen BK263.out 1; have hfz47_2 := blk_frozen BK263.out 2; have hfz47_3 := blk_frozen BK263.out 3) | (go_at_call 51; (with_reducible refine (forecourtref05_Is.calls a0_0 _ _ l0_1 ((rd_T58 l0_1 x3_2).f1) true _ ?side1 ?side2 A15.out).mono ?_); (case side1 => repeat (first | exact (Kd.C_below HR0_1.out HB.out) | (with_reducible refine Kd.C_alloc ?_ _) | (with_reducible refine Kd.C_drewN ?_ _) | (with_reducible refine Kd.C_drew ?_))); (case side2 => exact HC0_1.out); rintro e w48 ⟨rfl, hb⟩; have n0_ := Aside0.mk (blk_below (g := gb261) (o := .cells #[.int .i64 a0_0, .slice (some ad262) l0_1.length c0_1] 24 (0, 0)) (by (with_reducible repeat (first | refine blk_drewN ?_ _ | refine blk_drew ?_ | refine blk_alloc ?_ _)); exact BK261.out) hb); have n1_ := Aside0.mk (blk_below (g := gb263) (o := .cells #[.int .i64 ((rd_T58 l0_1 x3_2).f0), .int .i64 ((rd_T58 l0_1 x3_2).f1), .int .i64 ((rd_T58 l0_1 x3_2).f2.f0), .int .i64 ((rd_T58 l0_1 x3_2).f2.f1)] 58 (0, 0)) (by (with_reducible repeat (first | refine blk_drewN ?_ _ | refine blk_drew ?_ | refine blk_alloc ?_ _)); exact BK263.out) hb); have n2_ := Aside0.mk (below_step (by repeat (first | (with_reducible first | exact HB.out | apply below_alloc | apply pw_below_drewN | apply below_drew1 | refine below_set ?_ GE261.out | refine below_set ?_ GE263.out) | exact HB.out)) hb); clear BK261; clear BK263; clear HB; have BK261 := n0_; have BK263 := n1_; have HB := n2_; clear n0_ n1_ n2_; (try clear hb); (try clear hb2); (try clear hk); (try clear hi); have hcz49_0 : w48.cell? ⟨gb263, 0, none⟩ = some (.int .i64 ((rd_T58 l0_1 x3_2).f0)) := (blk_cell BK263.out 0).trans rfl; have hcz49_1 : w48.cell? ⟨gb263, 1, none⟩ = some (.int .i64 ((rd_T58 l0_1 x3_2).f1)) := (blk_cell BK263.out 1).trans rfl; have hcz49_2 : w48.cell? ⟨gb263, 2, none⟩ = some (.int .i64 ((rd_T58 l0_1 x3_2).f2.f0)) := (blk_cell BK263.out 2).trans rfl; have hcz49_3 : w48.cell? ⟨gb263, 3, none⟩ = some (.int .i64 ((rd_T58 l0_1 x3_2).f2.f1)) := (blk_cell BK263.out 3).trans rfl; have hfz49_0 := blk_frozen BK263.out 0; have hfz49_1 := blk_frozen BK263.out 1; have hfz49_2 := blk_frozen BK263.out 2; have hfz49_3 := blk_frozen BK263.out 3))
                            go_ret
                            exact ⟨by first | rfl | (simp [errW_none, errW_some] <;> rfl) | (simp [*, errW_none, errW_some] <;> rfl), by repeat (first | (with_reducible first | exact HB.out | apply below_alloc | apply pw_below_drewN | apply below_drew1 | refine below_set ?_ GE261.out | refine below_set ?_ GE263.out) | exact HB.out)⟩
                          · rw [if_neg c39] at H
                            have c39b0 : decide (((rd_T58 l0_1 x3_2).f2.f1) < ((rd_T58 l0_1 x3_2).f2.f0)) = false := decide_eq_false c39
                            clear c39
                            by_cases c50 : ((rd_T58 l0_1 x3_2).f2.f1) > 100000
                            · rw [if_pos c50] at H
                              have c50b0 : decide (100000 < ((rd_T58 l0_1 x3_2).f2.f1)) = true := decide_eq_true c50
                              clear c50
                              obtain rfl := Option.some.inj H
                              have hcz51_0 : wr.cell? ⟨gb261, 0, none⟩ = some (.int .i64 a0_0) := (blk_cell BK261.out 0).trans rfl
                              have hcz51_1 : wr.cell? ⟨gb261, 1, none⟩ = some (.slice A0_1 l0_1.length c0_1) := (blk_cell BK261.out 1).trans rfl
                              have hfz51_0 := blk_frozen BK261.out 0
                              have hfz51_1 := blk_frozen BK261.out 1
                              have p262 : 0 ≤ (x3_2 : Int) := of_decide_eq_true (by first | (with_reducible assumption) | assumption)
                              have q262 : x3_2 < (l0_1.length : Int) := of_decide_eq_true (by first | (with_reducible assumption) | assumption)
                              obtain ⟨ad262, e262, hx262_0, hx262_1, hx262_2, hx262_3⟩ := at_T58 HR0_1.out x3_2 p262 q262
                              cases e262
                              replace hx262_0 := (HB.out.cell (World.block_lt_of_cell? w _ hx262_0)).trans hx262_0
                              replace hx262_1 := (HB.out.cell (World.block_lt_of_cell? w _ hx262_1)).trans hx262_1
                              replace hx262_2 := (HB.out.cell (World.block_lt_of_cell? w _ hx262_2)).trans hx262_2
                              replace hx262_3 := (HB.out.cell (World.block_lt_of_cell? w _ hx262_3)).trans hx262_3
                              replace p262 := eq_true p262
                              replace q262 := eq_true q262
                              go_wp2_with (first | ((with_reducible refine gate_dst (N := 4) rfl ?_); refine box_event ?hg (N := 4) ?hd (cs := #[.int .i64 0, .int .i64 0, .int .i64 0, .int .i64 0]) (t := 58) ?hr ?_; (case hd => rfl); (case hg => rfl); (case hr => first | (go_simp; done) | (go_simp; rfl)); intro gb263 hg w52 hbox hb; have n0_ := Aside0.mk (blk_below (g := gb261) (o := .cells #[.int .i64 a0_0, .slice (some ad262) l0_1.length c0_1] 24 (0, 0)) (by (with_reducible repeat (first | refine blk_drewN ?_ _ | refine blk_drew ?_ | refine blk_alloc ?_ _)); exact BK261.out) hb); have n1_ := Aside0.mk (below_step (by repeat (first | (with_reducible first | exact HB.out | apply below_alloc | apply pw_below_drewN | apply below_drew1 | refine below_set ?_ GE261.out) | exact HB.out)) hb); have n2_ := Aside0.mk (hbox); have n3_ := Aside0.mk ((by rw [hg]; exact (below_size (by repeat (first | (with_reducible first | exact HB.out | apply below_alloc | apply pw_below_drewN | apply below_drew1 | refine below_set ?_ GE261.out) | exact HB.out))) : w.heap.size ≤ gb263)); have n4_ := Aside0.mk ((by rw [hg]; exact (below_size (by repeat (first | (with_reducible first | exact HB.out | apply below_alloc | apply pw_below_drewN | apply below_drew1 | refine below_set ?_ GE261.out) | exact HB.out))) : w.heap.size ≤ gb263)); have n5_ := Aside0.mk ((by rw [hg]; exact Nat.ne_of_lt (blk_lt (g := gb261) (o := .cells #[.int .i64 a0_0, .slice (some ad262) l0_1.length c0_1] 24 (0, 0)) (by (with_reducible repeat (first | refine blk_drewN ?_ _ | refine blk_drew ?_ | refine blk_alloc ?_ _)); exact BK261.out)) : gb261 ≠ gb263)); have n6_ := Aside0.mk ((by rw [hg]; exact Nat.ne_of_gt (blk_lt (g := gb261) (o := .cells #[.int .i64 a0_0, .slice (some ad262) l0_1.length c0_1] 24 (0, 0)) (by (with_reducible repeat (first | refine blk_drewN ?_ _ | refine blk_drew ?_ | refine blk_alloc ?_ _)); exact BK261.out)) : gb263 ≠ gb261)); clear BK261; clear HB; have BK261 := n0_; have HB := n1_; have BK263 := n2_; have GW263 := n3_; have GE263 := n4_; have NB261_263 := n5_; have NB263_261 := n6_; clear n0_ n1_ n2_ n3_ n4_ n5_ n6_; clear hb hbox hg; have hnb53 := NB263_261.out; have hnc53 := NB261_263.out; have hcz54_0 : w52.cell? ⟨gb263, 0, none⟩ = some (.int .i64 0) := (blk_cell BK263.out 0).trans rfl; have hcz54_1 : w52.cell? ⟨gb263, 1, none⟩ = some (.int .i64 0) := (blk_cell BK263.out 1).trans rfl; have hcz54_2 : w52.cell? ⟨gb263, 2, none⟩ = some (.int .i64 0) := (blk_cell BK263.out 2).trans rfl; have hcz54_3 : w52.cell? ⟨gb263, 3, none⟩ = some (.int .i64 0) := (blk_cell BK263.out 3).trans rfl; have hfz54_0 := blk_frozen BK263.out 0; have hfz54_1 := blk_frozen BK263.out 1; have hfz54_2 := blk_frozen BK263.out 2; have hfz54_3 := blk_frozen BK263.out 3; have hcz55_0 : w52.cell? ⟨gb261, 0, none⟩ = some (.int .i64 a0_0) := (blk_cell BK261.out 0).trans rfl; have hcz55_1 : w52.cell? ⟨gb261, 1, none⟩ = some (.slice (some ad262) l0_1.length c0_1) := (blk_cell BK261.out 1).trans rfl; have hfz55_0 := blk_frozen BK261.out 0; have hfz55_1 := blk_frozen BK261.out 1) | ((with_reducible refine gate_callee (f := 51) rfl ?_); refine goesL_ (some 32) rfl rfl Try.func51 (by kernel_rfl) rfl #[.agg #[.int .i64 a0_0, .slice (some ad262) l0_1.length c0_1], .int .i64 ((rd_T58 l0_1 x3_2).f0)] rfl (by (try simp only [List.map_toArray, List.map_cons, List.map_nil]); first | done | rfl | (simp only [List.length_drop, List.length_take]; rfl)) ?_; (with_reducible refine (forecourtref05_Is.calls a0_0 _ _ l0_1 ((rd_T58 l0_1 x3_2).f0) true _ ?side1 ?side2 A13.out).mono ?_); (case side1 => exact Kd.C_below HR0_1.out (by repeat (first | (with_reducible first | exact HB.out | apply below_alloc | apply pw_below_drewN | apply below_drew1 | refine below_set ?_ GE261.out | refine below_set ?_ GE263.out) | exact HB.out))); (case side2 => exact HC0_1.out); rintro e w56 ⟨rfl, hb⟩; refine ⟨_, rfl, ?_⟩; have n0_ := Aside0.mk (blk_below (g := gb261) (o := .cells #[.int .i64 a0_0, .slice (some ad262) l0_1.length c0_1] 24 (0, 0)) (by (with_reducible repeat (first | refine blk_drewN ?_ _ | refine blk_drew ?_ | refine blk_alloc ?_ _)); refine blk_far ?_ NB261_263.out _; (with_reducible repeat (first | refine blk_drewN ?_ _ | refine blk_drew ?_ | refine blk_alloc ?_ _)); refine blk_far ?_ NB261_263.out _; (with_reducible repeat (first | refine blk_drewN ?_ _ | refine blk_drew ?_ | refine blk_alloc ?_ _)); refine blk_far ?_ NB261_263.out _; (with_reducible repeat (first | refine blk_drewN ?_ _ | refine blk_drew ?_ | refine blk_alloc ?_ _)); refine blk_far ?_ NB261_263.out _; (with_reducible repeat (first | refine blk_drewN ?_ _ | refine blk_drew ?_ | refine blk_alloc ?_ _)); exact BK261.out) hb); have n1_ := Aside0.mk (blk_below (g := gb263) (o := .cells #[.int .i64 ((rd_T58 l0_1 x3_2).f0), .int .i64 ((rd_T58 l0_1 x3_2).f1), .int .i64 ((rd_T58 l0_1 x3_2).f2.f0), .int .i64 ((rd_T58 l0_1 x3_2).f2.f1)] 58 (0, 0)) (by (with_reducible repeat (first | refine blk_drewN ?_ _ | refine blk_drew ?_ | refine blk_alloc ?_ _)); refine blk_put (cs := #[.int .i64 ((rd_T58 l0_1 x3_2).f0), .int .i64 ((rd_T58 l0_1 x3_2).f1), .int .i64 ((rd_T58 l0_1 x3_2).f2.f0), .int .i64 0]) ?_ 3 _ rfl; (with_reducible repeat (first | refine blk_drewN ?_ _ | refine blk_drew ?_ | refine blk_alloc ?_ _)); refine blk_put (cs := #[.int .i64 ((rd_T58 l0_1 x3_2).f0), .int .i64 ((rd_T58 l0_1 x3_2).f1), .int .i64 0, .int .i64 0]) ?_ 2 _ rfl; (with_reducible repeat (first | refine blk_drewN ?_ _ | refine blk_drew ?_ | refine blk_alloc ?_ _)); refine blk_put (cs := #[.int .i64 ((rd_T58 l0_1 x3_2).f0), .int .i64 0, .int .i64 0, .int .i64 0]) ?_ 1 _ rfl; (with_reducible repeat (first | refine blk_drewN ?_ _ | refine blk_drew ?_ | refine blk_alloc ?_ _)); refine blk_put (cs := #[.int .i64 0, .int .i64 0, .int .i64 0, .int .i64 0]) ?_ 0 _ rfl; (with_reducible repeat (first | refine blk_drewN ?_ _ | refine blk_drew ?_ | refine blk_alloc ?_ _)); exact BK263.out) hb); have n2_ := Aside0.mk (below_step (by repeat (first | (with_reducible first | exact HB.out | apply below_alloc | apply pw_below_drewN | apply below_drew1 | refine below_set ?_ GE261.out | refine below_set ?_ GE263.out) | exact HB.out)) hb); clear BK261; clear BK263; clear HB; have BK261 := n0_; have BK263 := n1_; have HB := n2_; clear n0_ n1_ n2_; (try clear hb); (try clear hb2); (try clear hk); (try clear hi); have hcz57_0 : w56.cell? ⟨gb261, 0, none⟩ = some (.int .i64 a0_0) := (blk_cell BK261.out 0).trans rfl; have hcz57_1 : w56.cell? ⟨gb261, 1, none⟩ = some (.slice (some ad262) l0_1.length c0_1) := (blk_cell BK261.out 1).trans rfl; have hfz57_0 := blk_frozen BK261.out 0; have hfz57_1 := blk_frozen BK261.out 1; have hcz58_0 : w56.cell? ⟨gb263, 0, none⟩ = some (.int .i64 ((rd_T58 l0_1 x3_2).f0)) := (blk_cell BK263.out 0).trans rfl; have hcz58_1 : w56.cell? ⟨gb263, 1, none⟩ = some (.int .i64 ((rd_T58 l0_1 x3_2).f1)) := (blk_cell BK263.out 1).trans rfl; have hcz58_2 : w56.cell? ⟨gb263, 2, none⟩ = some (.int .i64 ((rd_T58 l0_1 x3_2).f2.f0)) := (blk_cell BK263.out 2).trans rfl; have hcz58_3 : w56.cell? ⟨gb263, 3, none⟩ = some (.int .i64 ((rd_T58 l0_1 x3_2).f2.f1)) := (blk_cell BK263.out 3).trans rfl; have hfz58_0 := blk_frozen BK263.out 0; have hfz58_1 := blk_frozen BK263.out 1; have hfz58_2 := blk_frozen BK263.out 2; have hfz58_3 := blk_frozen BK263.out 3) | (go_at_call 51; (with_reducible refine (forecourtref05_Is.calls a0_0 _ _ l0_1 ((rd_T58 l0_1 x3_2).f1) true _ ?side1 ?side2 A15.out).mono ?_); (case side1 => repeat (first | exact (Kd.C_below HR0_1.out HB.out) | (with_reducible refine Kd.C_alloc ?_ _) | (with_reducible refine Kd.C_drewN ?_ _) | (with_reducible refine Kd.C_drew ?_))); (case side2 => exact HC0_1.out); rintro e w59 ⟨rfl, hb⟩; have n0_ := Aside0.mk (blk_below (g := gb261) (o := .cells #[.int .i64 a0_0, .slice (some ad262) l0_1.length c0_1] 24 (0, 0)) (by (with_reducible repeat (first | refine blk_drewN ?_ _ | refine blk_drew ?_ | refine blk_alloc ?_ _)); exact BK261.out) hb); have n1_ := Aside0.mk (blk_below (g := gb263) (o := .cells #[.int .i64 ((rd_T58 l0_1 x3_2).f0), .int .i64 ((rd_T58 l0_1 x3_2).f1), .int .i64 ((rd_T58 l0_1 x3_2).f2.f0), .int .i64 ((rd_T58 l0_1 x3_2).f2.f1)] 58 (0, 0)) (by (with_reducible repeat (first | refine blk_drewN ?_ _ | refine blk_drew ?_ | refine blk_alloc ?_ _)); exact BK263.out) hb); have n2_ := Aside0.mk (below_step (by repeat (first | (with_reducible first | exact HB.out | apply below_alloc | apply pw_below_drewN | apply below_drew1 | refine below_set ?_ GE261.out | refine below_set ?_ GE263.out) | exact HB.out)) hb); clear BK261; clear BK263; clear HB; have BK261 := n0_; have BK263 := n1_; have HB := n2_; clear n0_ n1_ n2_; (try clear hb); (try clear hb2); (try clear hk); (try clear hi); have hcz60_0 : w59.cell? ⟨gb263, 0, none⟩ = some (.int .i64 ((rd_T58 l0_1 x3_2).f0)) := (blk_cell BK263.out 0).trans rfl; have hcz60_1 : w59.cell? ⟨gb263, 1, none⟩ = some (.int .i64 ((rd_T58 l0_1 x3_2).f1)) := (blk_cell BK263.out 1).trans rfl; have hcz60_2 : w59.cell? ⟨gb263, 2, none⟩ = some (.int .i64 ((rd_T58 l0_1 x3_2).f2.f0)) := (blk_cell BK263.out 2).trans rfl; have hcz60_3 : w59.cell? ⟨gb263, 3, none⟩ = some (.int .i64 ((rd_T58 l0_1 x3_2).f2.f1)) := (blk_cell BK263.out 3).trans rfl; have hfz60_0 := blk_frozen BK263.out 0; have hfz60_1 := blk_frozen BK263.out 1; have hfz60_2 := blk_frozen BK263.out 2; have hfz60_3 := blk_frozen BK263.out 3))
                              go_ret
                              exact ⟨by first | rfl | (simp [errW_none, errW_some] <;> rfl) | (simp [*, errW_none, errW_some] <;> rfl), by repeat (first | (with_reducible first | exact HB.out | apply below_alloc | apply pw_below_drewN | apply below_drew1 | refine below_set ?_ GE261.out | refine below_set ?_ GE263.out) | exact HB.out)⟩
                            · rw [if_neg c50] at H
                              have c50b0 : decide (100000 < ((rd_T58 l0_1 x3_2).f2.f1)) = false := decide_eq_false c50
                              clear c50
                              have H' := Aside0.mk H
                              clear H
                              have hcz61_0 : wr.cell? ⟨gb261, 0, none⟩ = some (.int .i64 a0_0) := (blk_cell BK261.out 0).trans rfl
                              have hcz61_1 : wr.cell? ⟨gb261, 1, none⟩ = some (.slice A0_1 l0_1.length c0_1) := (blk_cell BK261.out 1).trans rfl
                              have hfz61_0 := blk_frozen BK261.out 0
                              have hfz61_1 := blk_frozen BK261.out 1
                              have p262 : 0 ≤ (x3_2 : Int) := of_decide_eq_true (by first | (with_reducible assumption) | assumption)
                              have q262 : x3_2 < (l0_1.length : Int) := of_decide_eq_true (by first | (with_reducible assumption) | assumption)
                              obtain ⟨ad262, e262, hx262_0, hx262_1, hx262_2, hx262_3⟩ := at_T58 HR0_1.out x3_2 p262 q262
                              cases e262
                              replace hx262_0 := (HB.out.cell (World.block_lt_of_cell? w _ hx262_0)).trans hx262_0
                              replace hx262_1 := (HB.out.cell (World.block_lt_of_cell? w _ hx262_1)).trans hx262_1
                              replace hx262_2 := (HB.out.cell (World.block_lt_of_cell? w _ hx262_2)).trans hx262_2
                              replace hx262_3 := (HB.out.cell (World.block_lt_of_cell? w _ hx262_3)).trans hx262_3
                              replace p262 := eq_true p262
                              replace q262 := eq_true q262
                              go_wp2_with (first | ((with_reducible refine gate_dst (N := 4) rfl ?_); refine box_event ?hg (N := 4) ?hd (cs := #[.int .i64 0, .int .i64 0, .int .i64 0, .int .i64 0]) (t := 58) ?hr ?_; (case hd => rfl); (case hg => rfl); (case hr => first | (go_simp; done) | (go_simp; rfl)); intro gb263 hg w62 hbox hb; have n0_ := Aside0.mk (blk_below (g := gb261) (o := .cells #[.int .i64 a0_0, .slice (some ad262) l0_1.length c0_1] 24 (0, 0)) (by (with_reducible repeat (first | refine blk_drewN ?_ _ | refine blk_drew ?_ | refine blk_alloc ?_ _)); exact BK261.out) hb); have n1_ := Aside0.mk (below_step (by repeat (first | (with_reducible first | exact HB.out | apply below_alloc | apply pw_below_drewN | apply below_drew1 | refine below_set ?_ GE261.out) | exact HB.out)) hb); have n2_ := Aside0.mk (hbox); have n3_ := Aside0.mk ((by rw [hg]; exact (below_size (by repeat (first | (with_reducible first | exact HB.out | apply below_alloc | apply pw_below_drewN | apply below_drew1 | refine below_set ?_ GE261.out) | exact HB.out))) : w.heap.size ≤ gb263)); have n4_ := Aside0.mk ((by rw [hg]; exact (below_size (by repeat (first | (with_reducible first | exact HB.out | apply below_alloc | apply pw_below_drewN | apply below_drew1 | refine below_set ?_ GE261.out) | exact HB.out))) : w.heap.size ≤ gb263)); have n5_ := Aside0.mk ((by rw [hg]; exact Nat.ne_of_lt (blk_lt (g := gb261) (o := .cells #[.int .i64 a0_0, .slice (some ad262) l0_1.length c0_1] 24 (0, 0)) (by (with_reducible repeat (first | refine blk_drewN ?_ _ | refine blk_drew ?_ | refine blk_alloc ?_ _)); exact BK261.out)) : gb261 ≠ gb263)); have n6_ := Aside0.mk ((by rw [hg]; exact Nat.ne_of_gt (blk_lt (g := gb261) (o := .cells #[.int .i64 a0_0, .slice (some ad262) l0_1.length c0_1] 24 (0, 0)) (by (with_reducible repeat (first | refine blk_drewN ?_ _ | refine blk_drew ?_ | refine blk_alloc ?_ _)); exact BK261.out)) : gb263 ≠ gb261)); clear BK261; clear HB; have BK261 := n0_; have HB := n1_; have BK263 := n2_; have GW263 := n3_; have GE263 := n4_; have NB261_263 := n5_; have NB263_261 := n6_; clear n0_ n1_ n2_ n3_ n4_ n5_ n6_; clear hb hbox hg; have hnb63 := NB263_261.out; have hnc63 := NB261_263.out; have hcz64_0 : w62.cell? ⟨gb263, 0, none⟩ = some (.int .i64 0) := (blk_cell BK263.out 0).trans rfl; have hcz64_1 : w62.cell? ⟨gb263, 1, none⟩ = some (.int .i64 0) := (blk_cell BK263.out 1).trans rfl; have hcz64_2 : w62.cell? ⟨gb263, 2, none⟩ = some (.int .i64 0) := (blk_cell BK263.out 2).trans rfl; have hcz64_3 : w62.cell? ⟨gb263, 3, none⟩ = some (.int .i64 0) := (blk_cell BK263.out 3).trans rfl; have hfz64_0 := blk_frozen BK263.out 0; have hfz64_1 := blk_frozen BK263.out 1; have hfz64_2 := blk_frozen BK263.out 2; have hfz64_3 := blk_frozen BK263.out 3; have hcz65_0 : w62.cell? ⟨gb261, 0, none⟩ = some (.int .i64 a0_0) := (blk_cell BK261.out 0).trans rfl; have hcz65_1 : w62.cell? ⟨gb261, 1, none⟩ = some (.slice (some ad262) l0_1.length c0_1) := (blk_cell BK261.out 1).trans rfl; have hfz65_0 := blk_frozen BK261.out 0; have hfz65_1 := blk_frozen BK261.out 1) | ((with_reducible refine gate_callee (f := 51) rfl ?_); refine goesL_ (some 32) rfl rfl Try.func51 (by kernel_rfl) rfl #[.agg #[.int .i64 a0_0, .slice (some ad262) l0_1.length c0_1], .int .i64 ((rd_T58 l0_1 x3_2).f0)] rfl (by (try simp only [List.map_toArray, List.map_cons, List.map_nil]); first | done | rfl | (simp only [List.length_drop, List.length_take]; rfl)) ?_; (with_reducible refine (forecourtref05_Is.calls a0_0 _ _ l0_1 ((rd_T58 l0_1 x3_2).f0) true _ ?side1 ?side2 A13.out).mono ?_); (case side1 => exact Kd.C_below HR0_1.out (by repeat (first | (with_reducible first | exact HB.out | apply below_alloc | apply pw_below_drewN | apply below_drew1 | refine below_set ?_ GE261.out | refine below_set ?_ GE263.out) | exact HB.out))); (case side2 => exact HC0_1.out); rintro e w66 ⟨rfl, hb⟩; refine ⟨_, rfl, ?_⟩; have n0_ := Aside0.mk (blk_below (g := gb261) (o := .cells #[.int .i64 a0_0, .slice (some ad262) l0_1.length c0_1] 24 (0, 0)) (by (with_reducible repeat (first | refine blk_drewN ?_ _ | refine blk_drew ?_ | refine blk_alloc ?_ _)); refine blk_far ?_ NB261_263.out _; (with_reducible repeat (first | refine blk_drewN ?_ _ | refine blk_drew ?_ | refine blk_alloc ?_ _)); refine blk_far ?_ NB261_263.out _; (with_reducible repeat (first | refine blk_drewN ?_ _ | refine blk_drew ?_ | refine blk_alloc ?_ _)); refine blk_far ?_ NB261_263.out _; (with_reducible repeat (first | refine blk_drewN ?_ _ | refine blk_drew ?_ | refine blk_alloc ?_ _)); refine blk_far ?_ NB261_263.out _; (with_reducible repeat (first | refine blk_drewN ?_ _ | refine blk_drew ?_ | refine blk_alloc ?_ _)); exact BK261.out) hb); have n1_ := Aside0.mk (blk_below (g := gb263) (o := .cells #[.int .i64 ((rd_T58 l0_1 x3_2).f0), .int .i64 ((rd_T58 l0_1 x3_2).f1), .int .i64 ((rd_T58 l0_1 x3_2).f2.f0), .int .i64 ((rd_T58 l0_1 x3_2).f2.f1)] 58 (0, 0)) (by (with_reducible repeat (first | refine blk_drewN ?_ _ | refine blk_drew ?_ | refine blk_alloc ?_ _)); refine blk_put (cs := #[.int .i64 ((rd_T58 l0_1 x3_2).f0), .int .i64 ((rd_T58 l0_1 x3_2).f1), .int .i64 ((rd_T58 l0_1 x3_2).f2.f0), .int .i64 0]) ?_ 3 _ rfl; (with_reducible repeat (first | refine blk_drewN ?_ _ | refine blk_drew ?_ | refine blk_alloc ?_ _)); refine blk_put (cs := #[.int .i64 ((rd_T58 l0_1 x3_2).f0), .int .i64 ((rd_T58 l0_1 x3_2).f1), .int .i64 0, .int .i64 0]) ?_ 2 _ rfl; (with_reducible repeat (first | refine blk_drewN ?_ _ | refine blk_drew ?_ | refine blk_alloc ?_ _)); refine blk_put (cs := #[.int .i64 ((rd_T58 l0_1 x3_2).f0), .int .i64 0, .int .i64 0, .int .i64 0]) ?_ 1 _ rfl; (with_reducible repeat (first | refine blk_drewN ?_ _ | refine blk_drew ?_ | refine blk_alloc ?_ _)); refine blk_put (cs := #[.int .i64 0, .int .i64 0, .int .i64 0, .int .i64 0]) ?_ 0 _ rfl; (with_reducible repeat (first | refine blk_drewN ?_ _ | refine blk_drew ?_ | refine blk_alloc ?_ _)); exact BK263.out) hb); have n2_ := Aside0.mk (below_step (by repeat (first | (with_reducible first | exact HB.out | apply below_alloc | apply pw_below_drewN | apply below_drew1 | refine below_set ?_ GE261.out | refine below_set ?_ GE263.out) | exact HB.out)) hb); clear BK261; clear BK263; clear HB; have BK261 := n0_; have BK263 := n1_; have HB := n2_; clear n0_ n1_ n2_; (try clear hb); (try clear hb2); (try clear hk); (try clear hi); have hcz67_0 : w66.cell? ⟨gb261, 0, none⟩ = some (.int .i64 a0_0) := (blk_cell BK261.out 0).trans rfl; have hcz67_1 : w66.cell? ⟨gb261, 1, none⟩ = some (.slice (some ad262) l0_1.length c0_1) := (blk_cell BK261.out 1).trans rfl; have hfz67_0 := blk_frozen BK261.out 0; have hfz67_1 := blk_frozen BK261.out 1; have hcz68_0 : w66.cell? ⟨gb263, 0, none⟩ = some (.int .i64 ((rd_T58 l0_1 x3_2).f0)) := (blk_cell BK263.out 0).trans rfl; have hcz68_1 : w66.cell? ⟨gb263, 1, none⟩ = some (.int .i64 ((rd_T58 l0_1 x3_2).f1)) := (blk_cell BK263.out 1).trans rfl; have hcz68_2 : w66.cell? ⟨gb263, 2, none⟩ = some (.int .i64 ((rd_T58 l0_1 x3_2).f2.f0)) := (blk_cell BK263.out 2).trans rfl; have hcz68_3 : w66.cell? ⟨gb263, 3, none⟩ = some (.int .i64 ((rd_T58 l0_1 x3_2).f2.f1)) := (blk_cell BK263.out 3).trans rfl; have hfz68_0 := blk_frozen BK263.out 0; have hfz68_1 := blk_frozen BK263.out 1; have hfz68_2 := blk_frozen BK263.out 2; have hfz68_3 := blk_frozen BK263.out 3) | (go_at_call 51; (with_reducible refine (forecourtref05_Is.calls a0_0 _ _ l0_1 ((rd_T58 l0_1 x3_2).f1) true _ ?side1 ?side2 A15.out).mono ?_); (case side1 => repeat (first | exact (Kd.C_below HR0_1.out HB.out) | (with_reducible refine Kd.C_alloc ?_ _) | (with_reducible refine Kd.C_drewN ?_ _) | (with_reducible refine Kd.C_drew ?_))); (case side2 => exact HC0_1.out); rintro e w69 ⟨rfl, hb⟩; have n0_ := Aside0.mk (blk_below (g := gb261) (o := .cells #[.int .i64 a0_0, .slice (some ad262) l0_1.length c0_1] 24 (0, 0)) (by (with_reducible repeat (first | refine blk_drewN ?_ _ | refine blk_drew ?_ | refine blk_alloc ?_ _)); exact BK261.out) hb); have n1_ := Aside0.mk (blk_below (g := gb263) (o := .cells #[.int .i64 ((rd_T58 l0_1 x3_2).f0), .int .i64 ((rd_T58 l0_1 x3_2).f1), .int .i64 ((rd_T58 l0_1 x3_2).f2.f0), .int .i64 ((rd_T58 l0_1 x3_2).f2.f1)] 58 (0, 0)) (by (with_reducible repeat (first | refine blk_drewN ?_ _ | refine blk_drew ?_ | refine blk_alloc ?_ _)); exact BK263.out) hb); have n2_ := Aside0.mk (below_step (by repeat (first | (with_reducible first | exact HB.out | apply below_alloc | apply pw_below_drewN | apply below_drew1 | refine below_set ?_ GE261.out | refine below_set ?_ GE263.out) | exact HB.out)) hb); clear BK261; clear BK263; clear HB; have BK261 := n0_; have BK263 := n1_; have HB := n2_; clear n0_ n1_ n2_; (try clear hb); (try clear hb2); (try clear hk); (try clear hi); have hcz70_0 : w69.cell? ⟨gb263, 0, none⟩ = some (.int .i64 ((rd_T58 l0_1 x3_2).f0)) := (blk_cell BK263.out 0).trans rfl; have hcz70_1 : w69.cell? ⟨gb263, 1, none⟩ = some (.int .i64 ((rd_T58 l0_1 x3_2).f1)) := (blk_cell BK263.out 1).trans rfl; have hcz70_2 : w69.cell? ⟨gb263, 2, none⟩ = some (.int .i64 ((rd_T58 l0_1 x3_2).f2.f0)) := (blk_cell BK263.out 2).trans rfl; have hcz70_3 : w69.cell? ⟨gb263, 3, none⟩ = some (.int .i64 ((rd_T58 l0_1 x3_2).f2.f1)) := (blk_cell BK263.out 3).trans rfl; have hfz70_0 := blk_frozen BK263.out 0; have hfz70_1 := blk_frozen BK263.out 1; have hfz70_2 := blk_frozen BK263.out 2; have hfz70_3 := blk_frozen BK263.out 3))
                              go_roundg k2
                              case measure => have := HJ1.out; have := HK2.out; omega
                              case rel => exact ⟨(wrap64 (x3_2 + 1)), (by first | rfl | (simp; done) | (simp [*]; done)), H', ⟨by have := HJ1.out; have := HK2.out; omega⟩, ⟨by (with_reducible repeat (first | refine blk_drewN ?_ _ | refine blk_drew ?_ | refine blk_alloc ?_ _)); exact BK261.out⟩, ⟨by repeat (first | (with_reducible first | exact HB.out | apply below_alloc | apply pw_below_drewN | apply below_drew1 | refine below_set ?_ GE261.out | refine below_set ?_ GE263.out) | exact HB.out)⟩⟩
                    · replace c16 := Bool.eq_false_iff.mpr c16
                      subst c16
                      have H1 : (some 3) = some r := by rw [if_neg (show ¬ (false = true) by decide)] at H; exact H
                      clear H
                      have H := H1
                      clear H1
                      obtain rfl := Option.some.inj H
                      have hcz71_0 : wr.cell? ⟨gb261, 0, none⟩ = some (.int .i64 a0_0) := (blk_cell BK261.out 0).trans rfl
                      have hcz71_1 : wr.cell? ⟨gb261, 1, none⟩ = some (.slice A0_1 l0_1.length c0_1) := (blk_cell BK261.out 1).trans rfl
                      have hfz71_0 := blk_frozen BK261.out 0
                      have hfz71_1 := blk_frozen BK261.out 1
                      have p262 : 0 ≤ (x3_2 : Int) := of_decide_eq_true (by first | (with_reducible assumption) | assumption)
                      have q262 : x3_2 < (l0_1.length : Int) := of_decide_eq_true (by first | (with_reducible assumption) | assumption)
                      obtain ⟨ad262, e262, hx262_0, hx262_1, hx262_2, hx262_3⟩ := at_T58 HR0_1.out x3_2 p262 q262
                      cases e262
                      replace hx262_0 := (HB.out.cell (World.block_lt_of_cell? w _ hx262_0)).trans hx262_0
                      replace hx262_1 := (HB.out.cell (World.block_lt_of_cell? w _ hx262_1)).trans hx262_1
                      replace hx262_2 := (HB.out.cell (World.block_lt_of_cell? w _ hx262_2)).trans hx262_2
                      replace hx262_3 := (HB.out.cell (World.block_lt_of_cell? w _ hx262_3)).trans hx262_3
                      replace p262 := eq_true p262
                      replace q262 := eq_true q262
                      go_wp2_with (first | ((with_reducible refine gate_dst (N := 4) rfl ?_); refine box_event ?hg (N := 4) ?hd (cs := #[.int .i64 0, .int .i64 0, .int .i64 0, .int .i64 0]) (t := 58) ?hr ?_; (case hd => rfl); (case hg => rfl); (case hr => first | (go_simp; done) | (go_simp; rfl)); intro gb263 hg w72 hbox hb; have n0_ := Aside0.mk (blk_below (g := gb261) (o := .cells #[.int .i64 a0_0, .slice (some ad262) l0_1.length c0_1] 24 (0, 0)) (by (with_reducible repeat (first | refine blk_drewN ?_ _ | refine blk_drew ?_ | refine blk_alloc ?_ _)); exact BK261.out) hb); have n1_ := Aside0.mk (below_step (by repeat (first | (with_reducible first | exact HB.out | apply below_alloc | apply pw_below_drewN | apply below_drew1 | refine below_set ?_ GE261.out) | exact HB.out)) hb); have n2_ := Aside0.mk (hbox); have n3_ := Aside0.mk ((by rw [hg]; exact (below_size (by repeat (first | (with_reducible first | exact HB.out | apply below_alloc | apply pw_below_drewN | apply below_drew1 | refine below_set ?_ GE261.out) | exact HB.out))) : w.heap.size ≤ gb263)); have n4_ := Aside0.mk ((by rw [hg]; exact (below_size (by repeat (first | (with_reducible first | exact HB.out | apply below_alloc | apply pw_below_drewN | apply below_drew1 | refine below_set ?_ GE261.out) | exact HB.out))) : w.heap.size ≤ gb263)); have n5_ := Aside0.mk ((by rw [hg]; exact Nat.ne_of_lt (blk_lt (g := gb261) (o := .cells #[.int .i64 a0_0, .slice (some ad262) l0_1.length c0_1] 24 (0, 0)) (by (with_reducible repeat (first | refine blk_drewN ?_ _ | refine blk_drew ?_ | refine blk_alloc ?_ _)); exact BK261.out)) : gb261 ≠ gb263)); have n6_ := Aside0.mk ((by rw [hg]; exact Nat.ne_of_gt (blk_lt (g := gb261) (o := .cells #[.int .i64 a0_0, .slice (some ad262) l0_1.length c0_1] 24 (0, 0)) (by (with_reducible repeat (first | refine blk_drewN ?_ _ | refine blk_drew ?_ | refine blk_alloc ?_ _)); exact BK261.out)) : gb263 ≠ gb261)); clear BK261; clear HB; have BK261 := n0_; have HB := n1_; have BK263 := n2_; have GW263 := n3_; have GE263 := n4_; have NB261_263 := n5_; have NB263_261 := n6_; clear n0_ n1_ n2_ n3_ n4_ n5_ n6_; clear hb hbox hg; have hnb73 := NB263_261.out; have hnc73 := NB261_263.out; have hcz74_0 : w72.cell? ⟨gb263, 0, none⟩ = some (.int .i64 0) := (blk_cell BK263.out 0).trans rfl; have hcz74_1 : w72.cell? ⟨gb263, 1, none⟩ = some (.int .i64 0) := (blk_cell BK263.out 1).trans rfl; have hcz74_2 : w72.cell? ⟨gb263, 2, none⟩ = some (.int .i64 0) := (blk_cell BK263.out 2).trans rfl; have hcz74_3 : w72.cell? ⟨gb263, 3, none⟩ = some (.int .i64 0) := (blk_cell BK263.out 3).trans rfl; have hfz74_0 := blk_frozen BK263.out 0; have hfz74_1 := blk_frozen BK263.out 1; have hfz74_2 := blk_frozen BK263.out 2; have hfz74_3 := blk_frozen BK263.out 3; have hcz75_0 : w72.cell? ⟨gb261, 0, none⟩ = some (.int .i64 a0_0) := (blk_cell BK261.out 0).trans rfl; have hcz75_1 : w72.cell? ⟨gb261, 1, none⟩ = some (.slice (some ad262) l0_1.length c0_1) := (blk_cell BK261.out 1).trans rfl; have hfz75_0 := blk_frozen BK261.out 0; have hfz75_1 := blk_frozen BK261.out 1) | ((with_reducible refine gate_callee (f := 51) rfl ?_); refine goesL_ (some 32) rfl rfl Try.func51 (by kernel_rfl) rfl #[.agg #[.int .i64 a0_0, .slice (some ad262) l0_1.length c0_1], .int .i64 ((rd_T58 l0_1 x3_2).f0)] rfl (by (try simp only [List.map_toArray, List.map_cons, List.map_nil]); first | done | rfl | (simp only [List.length_drop, List.length_take]; rfl)) ?_; (with_reducible refine (forecourtref05_Is.calls a0_0 _ _ l0_1 ((rd_T58 l0_1 x3_2).f0) true _ ?side1 ?side2 A13.out).mono ?_); (case side1 => exact Kd.C_below HR0_1.out (by repeat (first | (with_reducible first | exact HB.out | apply below_alloc | apply pw_below_drewN | apply below_drew1 | refine below_set ?_ GE261.out | refine below_set ?_ GE263.out) | exact HB.out))); (case side2 => exact HC0_1.out); rintro e w76 ⟨rfl, hb⟩; refine ⟨_, rfl, ?_⟩; have n0_ := Aside0.mk (blk_below (g := gb261) (o := .cells #[.int .i64 a0_0, .slice (some ad262) l0_1.length c0_1] 24 (0, 0)) (by (with_reducible repeat (first | refine blk_drewN ?_ _ | refine blk_drew ?_ | refine blk_alloc ?_ _)); refine blk_far ?_ NB261_263.out _; (with_reducible repeat (first | refine blk_drewN ?_ _ | refine blk_drew ?_ | refine blk_alloc ?_ _)); refine blk_far ?_ NB261_263.out _; (with_reducible repeat (first | refine blk_drewN ?_ _ | refine blk_drew ?_ | refine blk_alloc ?_ _)); refine blk_far ?_ NB261_263.out _; (with_reducible repeat (first | refine blk_drewN ?_ _ | refine blk_drew ?_ | refine blk_alloc ?_ _)); refine blk_far ?_ NB261_263.out _; (with_reducible repeat (first | refine blk_drewN ?_ _ | refine blk_drew ?_ | refine blk_alloc ?_ _)); exact BK261.out) hb); have n1_ := Aside0.mk (blk_below (g := gb263) (o := .cells #[.int .i64 ((rd_T58 l0_1 x3_2).f0), .int .i64 ((rd_T58 l0_1 x3_2).f1), .int .i64 ((rd_T58 l0_1 x3_2).f2.f0), .int .i64 ((rd_T58 l0_1 x3_2).f2.f1)] 58 (0, 0)) (by (with_reducible repeat (first | refine blk_drewN ?_ _ | refine blk_drew ?_ | refine blk_alloc ?_ _)); refine blk_put (cs := #[.int .i64 ((rd_T58 l0_1 x3_2).f0), .int .i64 ((rd_T58 l0_1 x3_2).f1), .int .i64 ((rd_T58 l0_1 x3_2).f2.f0), .int .i64 0]) ?_ 3 _ rfl; (with_reducible repeat (first | refine blk_drewN ?_ _ | refine blk_drew ?_ | refine blk_alloc ?_ _)); refine blk_put (cs := #[.int .i64 ((rd_T58 l0_1 x3_2).f0), .int .i64 ((rd_T58 l0_1 x3_2).f1), .int .i64 0, .int .i64 0]) ?_ 2 _ rfl; (with_reducible repeat (first | refine blk_drewN ?_ _ | refine blk_drew ?_ | refine blk_alloc ?_ _)); refine blk_put (cs := #[.int .i64 ((rd_T58 l0_1 x3_2).f0), .int .i64 0, .int .i64 0, .int .i64 0]) ?_ 1 _ rfl; (with_reducible repeat (first | refine blk_drewN ?_ _ | refine blk_drew ?_ | refine blk_alloc ?_ _)); refine blk_put (cs := #[.int .i64 0, .int .i64 0, .int .i64 0, .int .i64 0]) ?_ 0 _ rfl; (with_reducible repeat (first | refine blk_drewN ?_ _ | refine blk_drew ?_ | refine blk_alloc ?_ _)); exact BK263.out) hb); have n2_ := Aside0.mk (below_step (by repeat (first | (with_reducible first | exact HB.out | apply below_alloc | apply pw_below_drewN | apply below_drew1 | refine below_set ?_ GE261.out | refine below_set ?_ GE263.out) | exact HB.out)) hb); clear BK261; clear BK263; clear HB; have BK261 := n0_; have BK263 := n1_; have HB := n2_; clear n0_ n1_ n2_; (try clear hb); (try clear hb2); (try clear hk); (try clear hi); have hcz77_0 : w76.cell? ⟨gb261, 0, none⟩ = some (.int .i64 a0_0) := (blk_cell BK261.out 0).trans rfl; have hcz77_1 : w76.cell? ⟨gb261, 1, none⟩ = some (.slice (some ad262) l0_1.length c0_1) := (blk_cell BK261.out 1).trans rfl; have hfz77_0 := blk_frozen BK261.out 0; have hfz77_1 := blk_frozen BK261.out 1; have hcz78_0 : w76.cell? ⟨gb263, 0, none⟩ = some (.int .i64 ((rd_T58 l0_1 x3_2).f0)) := (blk_cell BK263.out 0).trans rfl; have hcz78_1 : w76.cell? ⟨gb263, 1, none⟩ = some (.int .i64 ((rd_T58 l0_1 x3_2).f1)) := (blk_cell BK263.out 1).trans rfl; have hcz78_2 : w76.cell? ⟨gb263, 2, none⟩ = some (.int .i64 ((rd_T58 l0_1 x3_2).f2.f0)) := (blk_cell BK263.out 2).trans rfl; have hcz78_3 : w76.cell? ⟨gb263, 3, none⟩ = some (.int .i64 ((rd_T58 l0_1 x3_2).f2.f1)) := (blk_cell BK263.out 3).trans rfl; have hfz78_0 := blk_frozen BK263.out 0; have hfz78_1 := blk_frozen BK263.out 1; have hfz78_2 := blk_frozen BK263.out 2; have hfz78_3 := blk_frozen BK263.out 3) | (go_at_call 51; (with_reducible refine (forecourtref05_Is.calls a0_0 _ _ l0_1 ((rd_T58 l0_1 x3_2).f1) false _ ?side1 ?side2 A15.out).mono ?_); (case side1 => repeat (first | exact (Kd.C_below HR0_1.out HB.out) | (with_reducible refine Kd.C_alloc ?_ _) | (with_reducible refine Kd.C_drewN ?_ _) | (with_reducible refine Kd.C_drew ?_))); (case side2 => exact HC0_1.out); rintro e w79 ⟨rfl, hb⟩; have n0_ := Aside0.mk (blk_below (g := gb261) (o := .cells #[.int .i64 a0_0, .slice (some ad262) l0_1.length c0_1] 24 (0, 0)) (by (with_reducible repeat (first | refine blk_drewN ?_ _ | refine blk_drew ?_ | refine blk_alloc ?_ _)); exact BK261.out) hb); have n1_ := Aside0.mk (blk_below (g := gb263) (o := .cells #[.int .i64 ((rd_T58 l0_1 x3_2).f0), .int .i64 ((rd_T58 l0_1 x3_2).f1), .int .i64 ((rd_T58 l0_1 x3_2).f2.f0), .int .i64 ((rd_T58 l0_1 x3_2).f2.f1)] 58 (0, 0)) (by (with_reducible repeat (first | refine blk_drewN ?_ _ | refine blk_drew ?_ | refine blk_alloc ?_ _)); exact BK263.out) hb); have n2_ := Aside0.mk (below_step (by repeat (first | (with_reducible first | exact HB.out | apply below_alloc | apply pw_below_drewN | apply below_drew1 | refine below_set ?_ GE261.out | refine below_set ?_ GE263.out) | exact HB.out)) hb); clear BK261; clear BK263; clear HB; have BK261 := n0_; have BK263 := n1_; have HB := n2_; clear n0_ n1_ n2_; (try clear hb); (try clear hb2); (try clear hk); (try clear hi)))
                      go_ret
                      exact ⟨by first | rfl | (simp [errW_none, errW_some] <;> rfl) | (simp [*, errW_none, errW_some] <;> rfl), by repeat (first | (with_reducible first | exact HB.out | apply below_alloc | apply pw_below_drewN | apply below_drew1 | refine below_set ?_ GE261.out | refine below_set ?_ GE263.out) | exact HB.out)⟩
                  · replace c14 := Bool.eq_false_iff.mpr c14
                    subst c14
                    have H1 : (some 3) = some r := by rw [if_neg (show ¬ (false = true) by decide)] at H; exact H
                    clear H
                    have H := H1
                    clear H1
                    obtain rfl := Option.some.inj H
                    have hcz80_0 : wr.cell? ⟨gb261, 0, none⟩ = some (.int .i64 a0_0) := (blk_cell BK261.out 0).trans rfl
                    have hcz80_1 : wr.cell? ⟨gb261, 1, none⟩ = some (.slice A0_1 l0_1.length c0_1) := (blk_cell BK261.out 1).trans rfl
                    have hfz80_0 := blk_frozen BK261.out 0
                    have hfz80_1 := blk_frozen BK261.out 1
                    have p262 : 0 ≤ (x3_2 : Int) := of_decide_eq_true (by first | (with_reducible assumption) | assumption)
                    have q262 : x3_2 < (l0_1.length : Int) := of_decide_eq_true (by first | (with_reducible assumption) | assumption)
                    obtain ⟨ad262, e262, hx262_0, hx262_1, hx262_2, hx262_3⟩ := at_T58 HR0_1.out x3_2 p262 q262
                    cases e262
                    replace hx262_0 := (HB.out.cell (World.block_lt_of_cell? w _ hx262_0)).trans hx262_0
                    replace hx262_1 := (HB.out.cell (World.block_lt_of_cell? w _ hx262_1)).trans hx262_1
                    replace hx262_2 := (HB.out.cell (World.block_lt_of_cell? w _ hx262_2)).trans hx262_2
                    replace hx262_3 := (HB.out.cell (World.block_lt_of_cell? w _ hx262_3)).trans hx262_3
                    replace p262 := eq_true p262
                    replace q262 := eq_true q262
                    go_wp2_with (first | ((with_reducible refine gate_dst (N := 4) rfl ?_); refine box_event ?hg (N := 4) ?hd (cs := #[.int .i64 0, .int .i64 0, .int .i64 0, .int .i64 0]) (t := 58) ?hr ?_; (case hd => rfl); (case hg => rfl); (case hr => first | (go_simp; done) | (go_simp; rfl)); intro gb263 hg w81 hbox hb; have n0_ := Aside0.mk (blk_below (g := gb261) (o := .cells #[.int .i64 a0_0, .slice (some ad262) l0_1.length c0_1] 24 (0, 0)) (by (with_reducible repeat (first | refine blk_drewN ?_ _ | refine blk_drew ?_ | refine blk_alloc ?_ _)); exact BK261.out) hb); have n1_ := Aside0.mk (below_step (by repeat (first | (with_reducible first | exact HB.out | apply below_alloc | apply pw_below_drewN | apply below_drew1 | refine below_set ?_ GE261.out) | exact HB.out)) hb); have n2_ := Aside0.mk (hbox); have n3_ := Aside0.mk ((by rw [hg]; exact (below_size (by repeat (first | (with_reducible first | exact HB.out | apply below_alloc | apply pw_below_drewN | apply below_drew1 | refine below_set ?_ GE261.out) | exact HB.out))) : w.heap.size ≤ gb263)); have n4_ := Aside0.mk ((by rw [hg]; exact (below_size (by repeat (first | (with_reducible first | exact HB.out | apply below_alloc | apply pw_below_drewN | apply below_drew1 | refine below_set ?_ GE261.out) | exact HB.out))) : w.heap.size ≤ gb263)); have n5_ := Aside0.mk ((by rw [hg]; exact Nat.ne_of_lt (blk_lt (g := gb261) (o := .cells #[.int .i64 a0_0, .slice (some ad262) l0_1.length c0_1] 24 (0, 0)) (by (with_reducible repeat (first | refine blk_drewN ?_ _ | refine blk_drew ?_ | refine blk_alloc ?_ _)); exact BK261.out)) : gb261 ≠ gb263)); have n6_ := Aside0.mk ((by rw [hg]; exact Nat.ne_of_gt (blk_lt (g := gb261) (o := .cells #[.int .i64 a0_0, .slice (some ad262) l0_1.length c0_1] 24 (0, 0)) (by (with_reducible repeat (first | refine blk_drewN ?_ _ | refine blk_drew ?_ | refine blk_alloc ?_ _)); exact BK261.out)) : gb263 ≠ gb261)); clear BK261; clear HB; have BK261 := n0_; have HB := n1_; have BK263 := n2_; have GW263 := n3_; have GE263 := n4_; have NB261_263 := n5_; have NB263_261 := n6_; clear n0_ n1_ n2_ n3_ n4_ n5_ n6_; clear hb hbox hg; have hnb82 := NB263_261.out; have hnc82 := NB261_263.out; have hcz83_0 : w81.cell? ⟨gb263, 0, none⟩ = some (.int .i64 0) := (blk_cell BK263.out 0).trans rfl; have hcz83_1 : w81.cell? ⟨gb263, 1, none⟩ = some (.int .i64 0) := (blk_cell BK263.out 1).trans rfl; have hcz83_2 : w81.cell? ⟨gb263, 2, none⟩ = some (.int .i64 0) := (blk_cell BK263.out 2).trans rfl; have hcz83_3 : w81.cell? ⟨gb263, 3, none⟩ = some (.int .i64 0) := (blk_cell BK263.out 3).trans rfl; have hfz83_0 := blk_frozen BK263.out 0; have hfz83_1 := blk_frozen BK263.out 1; have hfz83_2 := blk_frozen BK263.out 2; have hfz83_3 := blk_frozen BK263.out 3; have hcz84_0 : w81.cell? ⟨gb261, 0, none⟩ = some (.int .i64 a0_0) := (blk_cell BK261.out 0).trans rfl; have hcz84_1 : w81.cell? ⟨gb261, 1, none⟩ = some (.slice (some ad262) l0_1.length c0_1) := (blk_cell BK261.out 1).trans rfl; have hfz84_0 := blk_frozen BK261.out 0; have hfz84_1 := blk_frozen BK261.out 1) | ((with_reducible refine gate_callee (f := 51) rfl ?_); refine goesL_ (some 32) rfl rfl Try.func51 (by kernel_rfl) rfl #[.agg #[.int .i64 a0_0, .slice (some ad262) l0_1.length c0_1], .int .i64 ((rd_T58 l0_1 x3_2).f0)] rfl (by (try simp only [List.map_toArray, List.map_cons, List.map_nil]); first | done | rfl | (simp only [List.length_drop, List.length_take]; rfl)) ?_; (with_reducible refine (forecourtref05_Is.calls a0_0 _ _ l0_1 ((rd_T58 l0_1 x3_2).f0) false _ ?side1 ?side2 A13.out).mono ?_); (case side1 => exact Kd.C_below HR0_1.out (by repeat (first | (with_reducible first | exact HB.out | apply below_alloc | apply pw_below_drewN | apply below_drew1 | refine below_set ?_ GE261.out | refine below_set ?_ GE263.out) | exact HB.out))); (case side2 => exact HC0_1.out); rintro e w85 ⟨rfl, hb⟩; refine ⟨_, rfl, ?_⟩; have n0_ := Aside0.mk (blk_below (g := gb261) (o := .cells #[.int .i64 a0_0, .slice (some ad262) l0_1.length c0_1] 24 (0, 0)) (by (with_reducible repeat (first | refine blk_drewN ?_ _ | refine blk_drew ?_ | refine blk_alloc ?_ _)); refine blk_far ?_ NB261_263.out _; (with_reducible repeat (first | refine blk_drewN ?_ _ | refine blk_drew ?_ | refine blk_alloc ?_ _)); refine blk_far ?_ NB261_263.out _; (with_reducible repeat (first | refine blk_drewN ?_ _ | refine blk_drew ?_ | refine blk_alloc ?_ _)); refine blk_far ?_ NB261_263.out _; (with_reducible repeat (first | refine blk_drewN ?_ _ | refine blk_drew ?_ | refine blk_alloc ?_ _)); refine blk_far ?_ NB261_263.out _; (with_reducible repeat (first | refine blk_drewN ?_ _ | refine blk_drew ?_ | refine blk_alloc ?_ _)); exact BK261.out) hb); have n1_ := Aside0.mk (blk_below (g := gb263) (o := .cells #[.int .i64 ((rd_T58 l0_1 x3_2).f0), .int .i64 ((rd_T58 l0_1 x3_2).f1), .int .i64 ((rd_T58 l0_1 x3_2).f2.f0), .int .i64 ((rd_T58 l0_1 x3_2).f2.f1)] 58 (0, 0)) (by (with_reducible repeat (first | refine blk_drewN ?_ _ | refine blk_drew ?_ | refine blk_alloc ?_ _)); refine blk_put (cs := #[.int .i64 ((rd_T58 l0_1 x3_2).f0), .int .i64 ((rd_T58 l0_1 x3_2).f1), .int .i64 ((rd_T58 l0_1 x3_2).f2.f0), .int .i64 0]) ?_ 3 _ rfl; (with_reducible repeat (first | refine blk_drewN ?_ _ | refine blk_drew ?_ | refine blk_alloc ?_ _)); refine blk_put (cs := #[.int .i64 ((rd_T58 l0_1 x3_2).f0), .int .i64 ((rd_T58 l0_1 x3_2).f1), .int .i64 0, .int .i64 0]) ?_ 2 _ rfl; (with_reducible repeat (first | refine blk_drewN ?_ _ | refine blk_drew ?_ | refine blk_alloc ?_ _)); refine blk_put (cs := #[.int .i64 ((rd_T58 l0_1 x3_2).f0), .int .i64 0, .int .i64 0, .int .i64 0]) ?_ 1 _ rfl; (with_reducible repeat (first | refine blk_drewN ?_ _ | refine blk_drew ?_ | refine blk_alloc ?_ _)); refine blk_put (cs := #[.int .i64 0, .int .i64 0, .int .i64 0, .int .i64 0]) ?_ 0 _ rfl; (with_reducible repeat (first | refine blk_drewN ?_ _ | refine blk_drew ?_ | refine blk_alloc ?_ _)); exact BK263.out) hb); have n2_ := Aside0.mk (below_step (by repeat (first | (with_reducible first | exact HB.out | apply below_alloc | apply pw_below_drewN | apply below_drew1 | refine below_set ?_ GE261.out | refine below_set ?_ GE263.out) | exact HB.out)) hb); clear BK261; clear BK263; clear HB; have BK261 := n0_; have BK263 := n1_; have HB := n2_; clear n0_ n1_ n2_; (try clear hb); (try clear hb2); (try clear hk); (try clear hi)))
                    go_ret
                    exact ⟨by first | rfl | (simp [errW_none, errW_some] <;> rfl) | (simp [*, errW_none, errW_some] <;> rfl), by repeat (first | (with_reducible first | exact HB.out | apply below_alloc | apply pw_below_drewN | apply below_drew1 | refine below_set ?_ GE261.out | refine below_set ?_ GE263.out) | exact HB.out)⟩
                · rw [if_neg c12] at H
                  exact absurd H (by simp)
              · rw [if_neg c11] at H
                have c11b0 : decide (x3_2 < (l0_1.length : Int)) = false := decide_eq_false c11
                clear c11
                obtain rfl := Option.some.inj H
                have hcz86_0 : wr.cell? ⟨gb261, 0, none⟩ = some (.int .i64 a0_0) := (blk_cell BK261.out 0).trans rfl
                have hcz86_1 : wr.cell? ⟨gb261, 1, none⟩ = some (.slice A0_1 l0_1.length c0_1) := (blk_cell BK261.out 1).trans rfl
                have hfz86_0 := blk_frozen BK261.out 0
                have hfz86_1 := blk_frozen BK261.out 1
                go_wp2
                go_ret
                exact ⟨by first | rfl | (simp [errW_none, errW_some] <;> rfl) | (simp [*, errW_none, errW_some] <;> rfl), by repeat (first | (with_reducible first | exact HB.out | apply below_alloc | apply pw_below_drewN | apply below_drew1 | refine below_set ?_ GE261.out) | exact HB.out)⟩

/-! ### forecourtref05_IsStart: function 42 -/
def forecourtref05_IsStart.f (k : Nat) (a0_0 : Int) (l0_1 : List (S58)) (a1_0 : Int) (a1_1 : Int) : Option (Int) := (forecourtref05_CheckYard.f k a0_0 l0_1).bind fun t268 => (if t268 = 0 then ((forecourtref05_Is.f a0_0 l0_1 a1_0).bind fun t269 => (if t269 = true then (if a1_1 < 0 then (some 2) else (if a1_1 > 100000 then (some 2) else (some 0))) else (some 2))) else ((forecourtref05_CheckYard.f k a0_0 l0_1).bind fun t270 => (some t270)))
set_option maxHeartbeats 8000000 in
set_option maxRecDepth 100000 in
theorem forecourtref05_IsStart.calls (k : Nat) (a0_0 : Int) (A0_1 : Option Addr) (c0_1 : Nat) (l0_1 : List (S58)) (a1_0 : Int) (a1_1 : Int) (r : Int) (w : World) (hr0_1 : Kd.C k58 w A0_1 l0_1.length l0_1) (hc0_1 : l0_1.length ≤ c0_1) (h : forecourtref05_IsStart.f k a0_0 l0_1 a1_0 a1_1 = some r) :
    Calls Try.prog 42 #[.agg #[.int .i64 a0_0, .slice A0_1 l0_1.length c0_1], .agg #[.int .i64 a1_0, .int .i64 a1_1]] w fun e w' => e = .returned (.int .i64 r) ∧ Below w.heap.size w w' := by
  have hu24 := Try.underlying24
  have hu26 := Try.underlying26
  have HR0_1 := Aside0.mk hr0_1
  have HC0_1 := Aside0.mk hc0_1
  clear hr0_1 hc0_1
  have HB := Aside0.mk (Below.refl w.heap.size w)
  have H : ((forecourtref05_CheckYard.f k a0_0 l0_1).bind fun t268 => (if t268 = 0 then ((forecourtref05_Is.f a0_0 l0_1 a1_0).bind fun t269 => (if t269 = true then (if a1_1 < 0 then (some 2) else (if a1_1 > 100000 then (some 2) else (some 0))) else (some 2))) else ((forecourtref05_CheckYard.f k a0_0 l0_1).bind fun t270 => (some t270)))) = some r := h
  clear h
  replace H := Option.bind_eq_some_iff.mp H
  obtain ⟨t268, A30, H⟩ := H
  replace H : (if t268 = 0 then ((forecourtref05_Is.f a0_0 l0_1 a1_0).bind fun t269 => (if t269 = true then (if a1_1 < 0 then (some 2) else (if a1_1 > 100000 then (some 2) else (some 0))) else (some 2))) else ((forecourtref05_CheckYard.f k a0_0 l0_1).bind fun t270 => (some t270))) = some r := H
  have A3 := Aside0.mk A30
  clear A30
  by_cases c4 : t268 = 0
  · rw [if_pos c4] at H
    have c4b0 : (t268 == 0) = true := beq_iff_eq.mpr c4
    have c4b1 : (t268 != 0) = false := bne_eq_false_iff_eq.mpr c4
    clear c4
    replace H := Option.bind_eq_some_iff.mp H
    obtain ⟨t269, A50, H⟩ := H
    replace H : (if t269 = true then (if a1_1 < 0 then (some 2) else (if a1_1 > 100000 then (some 2) else (some 0))) else (some 2)) = some r := H
    have A5 := Aside0.mk A50
    clear A50
    by_cases c6 : t269 = true
    · subst c6
      have H1 : (if a1_1 < 0 then (some 2) else (if a1_1 > 100000 then (some 2) else (some 0))) = some r := by rw [if_pos rfl] at H; exact H
      clear H
      have H := H1
      clear H1
      by_cases c7 : a1_1 < 0
      · rw [if_pos c7] at H
        have c7b0 : decide (a1_1 < 0) = true := decide_eq_true c7
        clear c7
        obtain rfl := Option.some.inj H
        go_enter Try.func42, Try.ntmps42
        go_wp2_with (first | ((with_reducible refine gate_dst (N := 2) rfl ?_); refine box_event ?hg (N := 2) ?hd (cs := #[.int .i64 a0_0, .slice A0_1 l0_1.length c0_1]) (t := 24) ?hr ?_; (case hd => rfl); (case hg => rfl); (case hr => first | (go_simp; done) | (go_simp; rfl)); intro gb266 hg w8 hbox hb; have n0_ := Aside0.mk (below_step (by repeat (first | (with_reducible first | exact HB.out | apply below_alloc | apply pw_below_drewN | apply below_drew1) | exact HB.out)) hb); have n1_ := Aside0.mk (hbox); have n2_ := Aside0.mk ((by rw [hg]; exact (below_size (by repeat (first | (with_reducible first | exact HB.out | apply below_alloc | apply pw_below_drewN | apply below_drew1) | exact HB.out))) : w.heap.size ≤ gb266)); have n3_ := Aside0.mk ((by rw [hg]; exact (below_size (by repeat (first | (with_reducible first | exact HB.out | apply below_alloc | apply pw_below_drewN | apply below_drew1) | exact HB.out))) : w.heap.size ≤ gb266)); clear HB; have HB := n0_; have BK266 := n1_; have GW266 := n2_; have GE266 := n3_; clear n0_ n1_ n2_ n3_; clear hb hbox hg) | ((with_reducible refine gate_dst (N := 3) rfl ?_); refine box_event ?hg (N := 3) ?hd (cs := #[.int .i64 a1_0, .int .i64 a1_1]) (t := 26) ?hr ?_; (case hd => rfl); (case hg => rfl); (case hr => first | (go_simp; done) | (go_simp; rfl)); intro gb267 hg w9 hbox hb; have n0_ := Aside0.mk (blk_below (g := gb266) (o := .cells #[.int .i64 a0_0, .slice A0_1 l0_1.length c0_1] 24 (0, 0)) (by (with_reducible repeat (first | refine blk_drewN ?_ _ | refine blk_drew ?_ | refine blk_alloc ?_ _)); exact BK266.out) hb); have n1_ := Aside0.mk (below_step (by repeat (first | (with_reducible first | exact HB.out | apply below_alloc | apply pw_below_drewN | apply below_drew1 | refine below_set ?_ GE266.out) | exact HB.out)) hb); have n2_ := Aside0.mk (hbox); have n3_ := Aside0.mk ((by rw [hg]; exact (below_size (by repeat (first | (with_reducible first | exact HB.out | apply below_alloc | apply pw_below_drewN | apply below_drew1 | refine below_set ?_ GE266.out) | exact HB.out))) : w.heap.size ≤ gb267)); have n4_ := Aside0.mk ((by rw [hg]; exact (below_size (by repeat (first | (with_reducible first | exact HB.out | apply below_alloc | apply pw_below_drewN | apply below_drew1 | refine below_set ?_ GE266.out) | exact HB.out))) : w.heap.size ≤ gb267)); have n5_ := Aside0.mk ((by rw [hg]; exact Nat.ne_of_lt (blk_lt (g := gb266) (o := .cells #[.int .i64 a0_0, .slice A0_1 l0_1.length c0_1] 24 (0, 0)) (by (with_reducible repeat (first | refine blk_drewN ?_ _ | refine blk_drew ?_ | refine blk_alloc ?_ _)); exact BK266.out)) : gb266 ≠ gb267)); have n6_ := Aside0.mk ((by rw [hg]; exact Nat.ne_of_gt (blk_lt (g := gb266) (o := .cells #[.int .i64 a0_0, .slice A0_1 l0_1.length c0_1] 24 (0, 0)) (by (with_reducible repeat (first | refine blk_drewN ?_ _ | refine blk_drew ?_ | refine blk_alloc ?_ _)); exact BK266.out)) : gb267 ≠ gb266)); clear BK266; clear HB; have BK266 := n0_; have HB := n1_; have BK267 := n2_; have GW267 := n3_; have GE267 := n4_; have NB266_267 := n5_; have NB267_266 := n6_; clear n0_ n1_ n2_ n3_ n4_ n5_ n6_; clear hb hbox hg; have hnb10 := NB266_267.out; have hnc10 := NB267_266.out; have hcz11_0 : w9.cell? ⟨gb266, 0, none⟩ = some (.int .i64 a0_0) := (blk_cell BK266.out 0).trans rfl; have hcz11_1 : w9.cell? ⟨gb266, 1, none⟩ = some (.slice A0_1 l0_1.length c0_1) := (blk_cell BK266.out 1).trans rfl; have hfz11_0 := blk_frozen BK266.out 0; have hfz11_1 := blk_frozen BK266.out 1) | ((with_reducible refine gate_callee (f := 17) rfl ?_); refine goesL_ (some 6) rfl rfl Try.func17 (by kernel_rfl) rfl #[.agg #[.int .i64 a0_0, .slice A0_1 l0_1.length c0_1]] rfl (by (try simp only [List.map_toArray, List.map_cons, List.map_nil]); first | done | rfl | (simp only [List.length_drop, List.length_take]; rfl)) ?_; (with_reducible refine (forecourtref05_CheckYard.calls k a0_0 _ _ l0_1 t268 _ ?side1 ?side2 A3.out).mono ?_); (case side1 => repeat (first | exact (Kd.C_below HR0_1.out HB.out) | (with_reducible refine Kd.C_alloc ?_ _) | (with_reducible refine Kd.C_drewN ?_ _) | (with_reducible refine Kd.C_drew ?_))); (case side2 => exact HC0_1.out); rintro e w12 ⟨rfl, hb⟩; refine ⟨_, rfl, ?_⟩; have n0_ := Aside0.mk (blk_below (g := gb266) (o := .cells #[.int .i64 a0_0, .slice A0_1 l0_1.length c0_1] 24 (0, 0)) (by (with_reducible repeat (first | refine blk_drewN ?_ _ | refine blk_drew ?_ | refine blk_alloc ?_ _)); exact BK266.out) hb); have n1_ := Aside0.mk (blk_below (g := gb267) (o := .cells #[.int .i64 a1_0, .int .i64 a1_1] 26 (0, 0)) (by (with_reducible repeat (first | refine blk_drewN ?_ _ | refine blk_drew ?_ | refine blk_alloc ?_ _)); exact BK267.out) hb); have n2_ := Aside0.mk (below_step (by repeat (first | (with_reducible first | exact HB.out | apply below_alloc | apply pw_below_drewN | apply below_drew1 | refine below_set ?_ GE266.out | refine below_set ?_ GE267.out) | exact HB.out)) hb); clear BK266; clear BK267; clear HB; have BK266 := n0_; have BK267 := n1_; have HB := n2_; clear n0_ n1_ n2_; (try clear hb); (try clear hb2); (try clear hk); (try clear hi); have hcz13_0 : w12.cell? ⟨gb266, 0, none⟩ = some (.int .i64 a0_0) := (blk_cell BK266.out 0).trans rfl; have hcz13_1 : w12.cell? ⟨gb266, 1, none⟩ = some (.slice A0_1 l0_1.length c0_1) := (blk_cell BK266.out 1).trans rfl; have hfz13_0 := blk_frozen BK266.out 0; have hfz13_1 := blk_frozen BK266.out 1; have hcz14_0 : w12.cell? ⟨gb267, 0, none⟩ = some (.int .i64 a1_0) := (blk_cell BK267.out 0).trans rfl; have hcz14_1 : w12.cell? ⟨gb267, 1, none⟩ = some (.int .i64 a1_1) := (blk_cell BK267.out 1).trans rfl; have hfz14_0 := blk_frozen BK267.out 0; have hfz14_1 := blk_frozen BK267.out 1) | ((with_reducible refine gate_callee (f := 51) rfl ?_); refine goesL_ (some 13) rfl rfl Try.func51 (by kernel_rfl) rfl #[.agg #[.int .i64 a0_0, .slice A0_1 l0_1.length c0_1], .int .i64 a1_0] rfl (by (try simp only [List.map_toArray, List.map_cons, List.map_nil]); first | done | rfl | (simp only [List.length_drop, List.length_take]; rfl)) ?_; (with_reducible refine (forecourtref05_Is.calls a0_0 _ _ l0_1 a1_0 true _ ?side1 ?side2 A5.out).mono ?_); (case side1 => repeat (first | exact (Kd.C_below HR0_1.out HB.out) | (with_reducible refine Kd.C_alloc ?_ _) | (with_reducible refine Kd.C_drewN ?_ _) | (with_reducible refine Kd.C_drew ?_))); (case side2 => exact HC0_1.out); rintro e w15 ⟨rfl, hb⟩; refine ⟨_, rfl, ?_⟩; have n0_ := Aside0.mk (blk_below (g := gb266) (o := .cells #[.int .i64 a0_0, .slice A0_1 l0_1.length c0_1] 24 (0, 0)) (by (with_reducible repeat (first | refine blk_drewN ?_ _ | refine blk_drew ?_ | refine blk_alloc ?_ _)); exact BK266.out) hb); have n1_ := Aside0.mk (blk_below (g := gb267) (o := .cells #[.int .i64 a1_0, .int .i64 a1_1] 26 (0, 0)) (by (with_reducible repeat (first | refine blk_drewN ?_ _ | refine blk_drew ?_ | refine blk_alloc ?_ _)); exact BK267.out) hb); have n2_ := Aside0.mk (below_step (by repeat (first | (with_reducible first | exact HB.out | apply below_alloc | apply pw_below_drewN | apply below_drew1 | refine below_set ?_ GE266.out | refine below_set ?_ GE267.out) | exact HB.out)) hb); clear BK266; clear BK267; clear HB; have BK266 := n0_; have BK267 := n1_; have HB := n2_; clear n0_ n1_ n2_; (try clear hb); (try clear hb2); (try clear hk); (try clear hi); have hcz16_0 : w15.cell? ⟨gb267, 0, none⟩ = some (.int .i64 a1_0) := (blk_cell BK267.out 0).trans rfl; have hcz16_1 : w15.cell? ⟨gb267, 1, none⟩ = some (.int .i64 a1_1) := (blk_cell BK267.out 1).trans rfl; have hfz16_0 := blk_frozen BK267.out 0; have hfz16_1 := blk_frozen BK267.out 1))
        go_ret
        exact ⟨by first | rfl | (simp [errW_none, errW_some] <;> rfl) | (simp [*, errW_none, errW_some] <;> rfl), by repeat (first | (with_reducible first | exact HB.out | apply below_alloc | apply pw_below_drewN | apply below_drew1 | refine below_set ?_ GE266.out | refine below_set ?_ GE267.out) | exact HB.out)⟩
      · rw [if_neg c7] at H
        have c7b0 : decide (a1_1 < 0) = false := decide_eq_false c7
        clear c7
        by_cases c17 : a1_1 > 100000
        · rw [if_pos c17] at H
          have c17b0 : decide (100000 < a1_1) = true := decide_eq_true c17
          clear c17
          obtain rfl := Option.some.inj H
          go_enter Try.func42, Try.ntmps42
          go_wp2_with (first | ((with_reducible refine gate_dst (N := 2) rfl ?_); refine box_event ?hg (N := 2) ?hd (cs := #[.int .i64 a0_0, .slice A0_1 l0_1.length c0_1]) (t := 24) ?hr ?_; (case hd => rfl); (case hg => rfl); (case hr => first | (go_simp; done) | (go_simp; rfl)); intro gb266 hg w18 hbox hb; have n0_ := Aside0.mk (below_step (by repeat (first | (with_reducible first | exact HB.out | apply below_alloc | apply pw_below_drewN | apply below_drew1) | exact HB.out)) hb); have n1_ := Aside0.mk (hbox); have n2_ := Aside0.mk ((by rw [hg]; exact (below_size (by repeat (first | (with_reducible first | exact HB.out | apply below_alloc | apply pw_below_drewN | apply below_drew1) | exact HB.out))) : w.heap.size ≤ gb266)); have n3_ := Aside0.mk ((by rw [hg]; exact (below_size (by repeat (first | (with_reducible first | exact HB.out | apply below_alloc | apply pw_below_drewN | apply below_drew1) | exact HB.out))) : w.heap.size ≤ gb266)); clear HB; have HB := n0_; have BK266 := n1_; have GW266 := n2_; have GE266 := n3_; clear n0_ n1_ n2_ n3_; clear hb hbox hg) | ((with_reducible refine gate_dst (N := 3) rfl ?_); refine box_event ?hg (N := 3) ?hd (cs := #[.int .i64 a1_0, .int .i64 a1_1]) (t := 26) ?hr ?_; (case hd => rfl); (case hg => rfl); (case hr => first | (go_simp; done) | (go_simp; rfl)); intro gb267 hg w19 hbox hb; have n0_ := Aside0.mk (blk_below (g := gb266) (o := .cells #[.int .i64 a0_0, .slice A0_1 l0_1.length c0_1] 24 (0, 0)) (by (with_reducible repeat (first | refine blk_drewN ?_ _ | refine blk_drew ?_ | refine blk_alloc ?_ _)); exact BK266.out) hb); have n1_ := Aside0.mk (below_step (by repeat (first | (with_reducible first | exact HB.out | apply below_alloc | apply pw_below_drewN | apply below_drew1 | refine below_set ?_ GE266.out) | exact HB.out)) hb); have n2_ := Aside0.mk (hbox); have n3_ := Aside0.mk ((by rw [hg]; exact (below_size (by repeat (first | (with_reducible first | exact HB.out | apply below_alloc | apply pw_below_drewN | apply below_drew1 | refine below_set ?_ GE266.out) | exact HB.out))) : w.heap.size ≤ gb267)); have n4_ := Aside0.mk ((by rw [hg]; exact (below_size (by repeat (first | (with_reducible first | exact HB.out | apply below_alloc | apply pw_below_drewN | apply below_drew1 | refine below_set ?_ GE266.out) | exact HB.out))) : w.heap.size ≤ gb267)); have n5_ := Aside0.mk ((by rw [hg]; exact Nat.ne_of_lt (blk_lt (g := gb266) (o := .cells #[.int .i64 a0_0, .slice A0_1 l0_1.length c0_1] 24 (0, 0)) (by (with_reducible repeat (first | refine blk_drewN ?_ _ | refine blk_drew ?_ | refine blk_alloc ?_ _)); exact BK266.out)) : gb266 ≠ gb267)); have n6_ := Aside0.mk ((by rw [hg]; exact Nat.ne_of_gt (blk_lt (g := gb266) (o := .cells #[.int .i64 a0_0, .slice A0_1 l0_1.length c0_1] 24 (0, 0)) (by (with_reducible repeat (first | refine blk_drewN ?_ _ | refine blk_drew ?_ | refine blk_alloc ?_ _)); exact BK266.out)) : gb267 ≠ gb266)); clear BK266; clear HB; have BK266 := n0_; have HB := n1_; have BK267 := n2_; have GW267 := n3_; have GE267 := n4_; have NB266_267 := n5_; have NB267_266 := n6_; clear n0_ n1_ n2_ n3_ n4_ n5_ n6_; clear hb hbox hg; have hnb20 := NB266_267.out; have hnc20 := NB267_266.out; have hcz21_0 : w19.cell? ⟨gb266, 0, none⟩ = some (.int .i64 a0_0) := (blk_cell BK266.out 0).trans rfl; have hcz21_1 : w19.cell? ⟨gb266, 1, none⟩ = some (.slice A0_1 l0_1.length c0_1) := (blk_cell BK266.out 1).trans rfl; have hfz21_0 := blk_frozen BK266.out 0; have hfz21_1 := blk_frozen BK266.out 1) | ((with_reducible refine gate_callee (f := 17) rfl ?_); refine goesL_ (some 6) rfl rfl Try.func17 (by kernel_rfl) rfl #[.agg #[.int .i64 a0_0, .slice A0_1 l0_1.length c0_1]] rfl (by (try simp only [List.map_toArray, List.map_cons, List.map_nil]); first | done | rfl | (simp only [List.length_drop, List.length_take]; rfl)) ?_; (with_reducible refine (forecourtref05_CheckYard.calls k a0_0 _ _ l0_1 t268 _ ?side1 ?side2 A3.out).mono ?_); (case side1 => repeat (first | exact (Kd.C_below HR0_1.out HB.out) | (with_reducible refine Kd.C_alloc ?_ _) | (with_reducible refine Kd.C_drewN ?_ _) | (with_reducible refine Kd.C_drew ?_))); (case side2 => exact HC0_1.out); rintro e w22 ⟨rfl, hb⟩; refine ⟨_, rfl, ?_⟩; have n0_ := Aside0.mk (blk_below (g := gb266) (o := .cells #[.int .i64 a0_0, .slice A0_1 l0_1.length c0_1] 24 (0, 0)) (by (with_reducible repeat (first | refine blk_drewN ?_ _ | refine blk_drew ?_ | refine blk_alloc ?_ _)); exact BK266.out) hb); have n1_ := Aside0.mk (blk_below (g := gb267) (o := .cells #[.int .i64 a1_0, .int .i64 a1_1] 26 (0, 0)) (by (with_reducible repeat (first | refine blk_drewN ?_ _ | refine blk_drew ?_ | refine blk_alloc ?_ _)); exact BK267.out) hb); have n2_ := Aside0.mk (below_step (by repeat (first | (with_reducible first | exact HB.out | apply below_alloc | apply pw_below_drewN | apply below_drew1 | refine below_set ?_ GE266.out | refine below_set ?_ GE267.out) | exact HB.out)) hb); clear BK266; clear BK267; clear HB; have BK266 := n0_; have BK267 := n1_; have HB := n2_; clear n0_ n1_ n2_; (try clear hb); (try clear hb2); (try clear hk); (try clear hi); have hcz23_0 : w22.cell? ⟨gb266, 0, none⟩ = some (.int .i64 a0_0) := (blk_cell BK266.out 0).trans rfl; have hcz23_1 : w22.cell? ⟨gb266, 1, none⟩ = some (.slice A0_1 l0_1.length c0_1) := (blk_cell BK266.out 1).trans rfl; have hfz23_0 := blk_frozen BK266.out 0; have hfz23_1 := blk_frozen BK266.out 1; have hcz24_0 : w22.cell? ⟨gb267, 0, none⟩ = some (.int .i64 a1_0) := (blk_cell BK267.out 0).trans rfl; have hcz24_1 : w22.cell? ⟨gb267, 1, none⟩ = some (.int .i64 a1_1) := (blk_cell BK267.out 1).trans rfl; have hfz24_0 := blk_frozen BK267.out 0; have hfz24_1 := blk_frozen BK267.out 1) | ((with_reducible refine gate_callee (f := 51) rfl ?_); refine goesL_ (some 13) rfl rfl Try.func51 (by kernel_rfl) rfl #[.agg #[.int .i64 a0_0, .slice A0_1 l0_1.length c0_1], .int .i64 a1_0] rfl (by (try simp only [List.map_toArray, List.map_cons, List.map_nil]); first | done | rfl | (simp only [List.length_drop, List.length_take]; rfl)) ?_; (with_reducible refine (forecourtref05_Is.calls a0_0 _ _ l0_1 a1_0 true _ ?side1 ?side2 A5.out).mono ?_); (case side1 => repeat (first | exact (Kd.C_below HR0_1.out HB.out) | (with_reducible refine Kd.C_alloc ?_ _) | (with_reducible refine Kd.C_drewN ?_ _) | (with_reducible refine Kd.C_drew ?_))); (case side2 => exact HC0_1.out); rintro e w25 ⟨rfl, hb⟩; refine ⟨_, rfl, ?_⟩; have n0_ := Aside0.mk (blk_below (g := gb266) (o := .cells #[.int .i64 a0_0, .slice A0_1 l0_1.length c0_1] 24 (0, 0)) (by (with_reducible repeat (first | refine blk_drewN ?_ _ | refine blk_drew ?_ | refine blk_alloc ?_ _)); exact BK266.out) hb); have n1_ := Aside0.mk (blk_below (g := gb267) (o := .cells #[.int .i64 a1_0, .int .i64 a1_1] 26 (0, 0)) (by (with_reducible repeat (first | refine blk_drewN ?_ _ | refine blk_drew ?_ | refine blk_alloc ?_ _)); exact BK267.out) hb); have n2_ := Aside0.mk (below_step (by repeat (first | (with_reducible first | exact HB.out | apply below_alloc | apply pw_below_drewN | apply below_drew1 | refine below_set ?_ GE266.out | refine below_set ?_ GE267.out) | exact HB.out)) hb); clear BK266; clear BK267; clear HB; have BK266 := n0_; have BK267 := n1_; have HB := n2_; clear n0_ n1_ n2_; (try clear hb); (try clear hb2); (try clear hk); (try clear hi); have hcz26_0 : w25.cell? ⟨gb267, 0, none⟩ = some (.int .i64 a1_0) := (blk_cell BK267.out 0).trans rfl; have hcz26_1 : w25.cell? ⟨gb267, 1, none⟩ = some (.int .i64 a1_1) := (blk_cell BK267.out 1).trans rfl; have hfz26_0 := blk_frozen BK267.out 0; have hfz26_1 := blk_frozen BK267.out 1))
          go_ret
          exact ⟨by first | rfl | (simp [errW_none, errW_some] <;> rfl) | (simp [*, errW_none, errW_some] <;> rfl), by repeat (first | (with_reducible first | exact HB.out | apply below_alloc | apply pw_below_drewN | apply below_drew1 | refine below_set ?_ GE266.out | refine below_set ?_ GE267.out) | exact HB.out)⟩
        · rw [if_neg c17] at H
          have c17b0 : decide (100000 < a1_1) = false := decide_eq_false c17
          clear c17
          obtain rfl := Option.some.inj H
          go_enter Try.func42, Try.ntmps42
          go_wp2_with (first | ((with_reducible refine gate_dst (N := 2) rfl ?_); refine box_event ?hg (N := 2) ?hd (cs := #[.int .i64 a0_0, .slice A0_1 l0_1.length c0_1]) (t := 24) ?hr ?_; (case hd => rfl); (case hg => rfl); (case hr => first | (go_simp; done) | (go_simp; rfl)); intro gb266 hg w27 hbox hb; have n0_ := Aside0.mk (below_step (by repeat (first | (with_reducible first | exact HB.out | apply below_alloc | apply pw_below_drewN | apply below_drew1) | exact HB.out)) hb); have n1_ := Aside0.mk (hbox); have n2_ := Aside0.mk ((by rw [hg]; exact (below_size (by repeat (first | (with_reducible first | exact HB.out | apply below_alloc | apply pw_below_drewN | apply below_drew1) | exact HB.out))) : w.heap.size ≤ gb266)); have n3_ := Aside0.mk ((by rw [hg]; exact (below_size (by repeat (first | (with_reducible first | exact HB.out | apply below_alloc | apply pw_below_drewN | apply below_drew1) | exact HB.out))) : w.heap.size ≤ gb266)); clear HB; have HB := n0_; have BK266 := n1_; have GW266 := n2_; have GE266 := n3_; clear n0_ n1_ n2_ n3_; clear hb hbox hg) | ((with_reducible refine gate_dst (N := 3) rfl ?_); refine box_event ?hg (N := 3) ?hd (cs := #[.int .i64 a1_0, .int .i64 a1_1]) (t := 26) ?hr ?_; (case hd => rfl); (case hg => rfl); (case hr => first | (go_simp; done) | (go_simp; rfl)); intro gb267 hg w28 hbox hb; have n0_ := Aside0.mk (blk_below (g := gb266) (o := .cells #[.int .i64 a0_0, .slice A0_1 l0_1.length c0_1] 24 (0, 0)) (by (with_reducible repeat (first | refine blk_drewN ?_ _ | refine blk_drew ?_ | refine blk_alloc ?_ _)); exact BK266.out) hb); have n1_ := Aside0.mk (below_step (by repeat (first | (with_reducible first | exact HB.out | apply below_alloc | apply pw_below_drewN | apply below_drew1 | refine below_set ?_ GE266.out) | exact HB.out)) hb); have n2_ := Aside0.mk (hbox); have n3_ := Aside0.mk ((by rw [hg]; exact (below_size (by repeat (first | (with_reducible first | exact HB.out | apply below_alloc | apply pw_below_drewN | apply below_drew1 | refine below_set ?_ GE266.out) | exact HB.out))) : w.heap.size ≤ gb267)); have n4_ := Aside0.mk ((by rw [hg]; exact (below_size (by repeat (first | (with_reducible first | exact HB.out | apply below_alloc | apply pw_below_drewN | apply below_drew1 | refine below_set ?_ GE266.out) | exact HB.out))) : w.heap.size ≤ gb267)); have n5_ := Aside0.mk ((by rw [hg]; exact Nat.ne_of_lt (blk_lt (g := gb266) (o := .cells #[.int .i64 a0_0, .slice A0_1 l0_1.length c0_1] 24 (0, 0)) (by (with_reducible repeat (first | refine blk_drewN ?_ _ | refine blk_drew ?_ | refine blk_alloc ?_ _)); exact BK266.out)) : gb266 ≠ gb267)); have n6_ := Aside0.mk ((by rw [hg]; exact Nat.ne_of_gt (blk_lt (g := gb266) (o := .cells #[.int .i64 a0_0, .slice A0_1 l0_1.length c0_1] 24 (0, 0)) (by (with_reducible repeat (first | refine blk_drewN ?_ _ | refine blk_drew ?_ | refine blk_alloc ?_ _)); exact BK266.out)) : gb267 ≠ gb266)); clear BK266; clear HB; have BK266 := n0_; have HB := n1_; have BK267 := n2_; have GW267 := n3_; have GE267 := n4_; have NB266_267 := n5_; have NB267_266 := n6_; clear n0_ n1_ n2_ n3_ n4_ n5_ n6_; clear hb hbox hg; have hnb29 := NB266_267.out; have hnc29 := NB267_266.out; have hcz30_0 : w28.cell? ⟨gb266, 0, none⟩ = some (.int .i64 a0_0) := (blk_cell BK266.out 0).trans rfl; have hcz30_1 : w28.cell? ⟨gb266, 1, none⟩ = some (.slice A0_1 l0_1.length c0_1) := (blk_cell BK266.out 1).trans rfl; have hfz30_0 := blk_frozen BK266.out 0; have hfz30_1 := blk_frozen BK266.out 1) | ((with_reducible refine gate_callee (f := 17) rfl ?_); refine goesL_ (some 6) rfl rfl Try.func17 (by kernel_rfl) rfl #[.agg #[.int .i64 a0_0, .slice A0_1 l0_1.length c0_1]] rfl (by (try simp only [List.map_toArray, List.map_cons, List.map_nil]); first | done | rfl | (simp only [List.length_drop, List.length_take]; rfl)) ?_; (with_reducible refine (forecourtref05_CheckYard.calls k a0_0 _ _ l0_1 t268 _ ?side1 ?side2 A3.out).mono ?_); (case side1 => repeat (first | exact (Kd.C_below HR0_1.out HB.out) | (with_reducible refine Kd.C_alloc ?_ _) | (with_reducible refine Kd.C_drewN ?_ _) | (with_reducible refine Kd.C_drew ?_))); (case side2 => exact HC0_1.out); rintro e w31 ⟨rfl, hb⟩; refine ⟨_, rfl, ?_⟩; have n0_ := Aside0.mk (blk_below (g := gb266) (o := .cells #[.int .i64 a0_0, .slice A0_1 l0_1.length c0_1] 24 (0, 0)) (by (with_reducible repeat (first | refine blk_drewN ?_ _ | refine blk_drew ?_ | refine blk_alloc ?_ _)); exact BK266.out) hb); have n1_ := Aside0.mk (blk_below (g := gb267) (o := .cells #[.int .i64 a1_0, .int .i64 a1_1] 26 (0, 0)) (by (with_reducible repeat (first | refine blk_drewN ?_ _ | refine blk_drew ?_ | refine blk_alloc ?_ _)); exact BK267.out) hb); have n2_ := Aside0.mk (below_step (by repeat (first | (with_reducible first | exact HB.out | apply below_alloc | apply pw_below_drewN | apply below_drew1 | refine below_set ?_ GE266.out | refine below_set ?_ GE267.out) | exact HB.out)) hb); clear BK266; clear BK267; clear HB; have BK266 := n0_; have BK267 := n1_; have HB := n2_; clear n0_ n1_ n2_; (try clear hb); (try clear hb2); (try clear hk); (try clear hi); have hcz32_0 : w31.cell? ⟨gb266, 0, none⟩ = some (.int .i64 a0_0) := (blk_cell BK266.out 0).trans rfl; have hcz32_1 : w31.cell? ⟨gb266, 1, none⟩ = some (.slice A0_1 l0_1.length c0_1) := (blk_cell BK266.out 1).trans rfl; have hfz32_0 := blk_frozen BK266.out 0; have hfz32_1 := blk_frozen BK266.out 1; have hcz33_0 : w31.cell? ⟨gb267, 0, none⟩ = some (.int .i64 a1_0) := (blk_cell BK267.out 0).trans rfl; have hcz33_1 : w31.cell? ⟨gb267, 1, none⟩ = some (.int .i64 a1_1) := (blk_cell BK267.out 1).trans rfl; have hfz33_0 := blk_frozen BK267.out 0; have hfz33_1 := blk_frozen BK267.out 1) | ((with_reducible refine gate_callee (f := 51) rfl ?_); refine goesL_ (some 13) rfl rfl Try.func51 (by kernel_rfl) rfl #[.agg #[.int .i64 a0_0, .slice A0_1 l0_1.length c0_1], .int .i64 a1_0] rfl (by (try simp only [List.map_toArray, List.map_cons, List.map_nil]); first | done | rfl | (simp only [List.length_drop, List.length_take]; rfl)) ?_; (with_reducible refine (forecourtref05_Is.calls a0_0 _ _ l0_1 a1_0 true _ ?side1 ?side2 A5.out).mono ?_); (case side1 => repeat (first | exact (Kd.C_below HR0_1.out HB.out) | (with_reducible refine Kd.C_alloc ?_ _) | (with_reducible refine Kd.C_drewN ?_ _) | (with_reducible refine Kd.C_drew ?_))); (case side2 => exact HC0_1.out); rintro e w34 ⟨rfl, hb⟩; refine ⟨_, rfl, ?_⟩; have n0_ := Aside0.mk (blk_below (g := gb266) (o := .cells #[.int .i64 a0_0, .slice A0_1 l0_1.length c0_1] 24 (0, 0)) (by (with_reducible repeat (first | refine blk_drewN ?_ _ | refine blk_drew ?_ | refine blk_alloc ?_ _)); exact BK266.out) hb); have n1_ := Aside0.mk (blk_below (g := gb267) (o := .cells #[.int .i64 a1_0, .int .i64 a1_1] 26 (0, 0)) (by (with_reducible repeat (first | refine blk_drewN ?_ _ | refine blk_drew ?_ | refine blk_alloc ?_ _)); exact BK267.out) hb); have n2_ := Aside0.mk (below_step (by repeat (first | (with_reducible first | exact HB.out | apply below_alloc | apply pw_below_drewN | apply below_drew1 | refine below_set ?_ GE266.out | refine below_set ?_ GE267.out) | exact HB.out)) hb); clear BK266; clear BK267; clear HB; have BK266 := n0_; have BK267 := n1_; have HB := n2_; clear n0_ n1_ n2_; (try clear hb); (try clear hb2); (try clear hk); (try clear hi); have hcz35_0 : w34.cell? ⟨gb267, 0, none⟩ = some (.int .i64 a1_0) := (blk_cell BK267.out 0).trans rfl; have hcz35_1 : w34.cell? ⟨gb267, 1, none⟩ = some (.int .i64 a1_1) := (blk_cell BK267.out 1).trans rfl; have hfz35_0 := blk_frozen BK267.out 0; have hfz35_1 := blk_frozen BK267.out 1))
          go_ret
          exact ⟨by first | rfl | (simp [errW_none, errW_some] <;> rfl) | (simp [*, errW_none, errW_some] <;> rfl), by repeat (first | (with_reducible first | exact HB.out | apply below_alloc | apply pw_below_drewN | apply below_drew1 | refine below_set ?_ GE266.out | refine below_set ?_ GE267.out) | exact HB.out)⟩
    · replace c6 := Bool.eq_false_iff.mpr c6
      subst c6
      have H1 : (some 2) = some r := by rw [if_neg (show ¬ (false = true) by decide)] at H; exact H
      clear H
      have H := H1
      clear H1
      obtain rfl := Option.some.inj H
      go_enter Try.func42, Try.ntmps42
      go_wp2_with (first | ((with_reducible refine gate_dst (N := 2) rfl ?_); refine box_event ?hg (N := 2) ?hd (cs := #[.int .i64 a0_0, .slice A0_1 l0_1.length c0_1]) (t := 24) ?hr ?_; (case hd => rfl); (case hg => rfl); (case hr => first | (go_simp; done) | (go_simp; rfl)); intro gb266 hg w36 hbox hb; have n0_ := Aside0.mk (below_step (by repeat (first | (with_reducible first | exact HB.out | apply below_alloc | apply pw_below_drewN | apply below_drew1) | exact HB.out)) hb); have n1_ := Aside0.mk (hbox); have n2_ := Aside0.mk ((by rw [hg]; exact (below_size (by repeat (first | (with_reducible first | exact HB.out | apply below_alloc | apply pw_below_drewN | apply below_drew1) | exact HB.out))) : w.heap.size ≤ gb266)); have n3_ := Aside0.mk ((by rw [hg]; exact (below_size (by repeat (first | (with_reducible first | exact HB.out | apply below_alloc | apply pw_below_drewN | apply below_drew1) | exact HB.out))) : w.heap.size ≤ gb266)); clear HB; have HB := n0_; have BK266 := n1_; have GW266 := n2_; have GE266 := n3_; clear n0_ n1_ n2_ n3_; clear hb hbox hg) | ((with_reducible refine gate_dst (N := 3) rfl ?_); refine box_event ?hg (N := 3) ?hd (cs := #[.int .i64 a1_0, .int .i64 a1_1]) (t := 26) ?hr ?_; (case hd => rfl); (case hg => rfl); (case hr => first | (go_simp; done) | (go_simp; rfl)); intro gb267 hg w37 hbox hb; have n0_ := Aside0.mk (blk_below (g := gb266) (o := .cells #[.int .i64 a0_0, .slice A0_1 l0_1.length c0_1] 24 (0, 0)) (by (with_reducible repeat (first | refine blk_drewN ?_ _ | refine blk_drew ?_ | refine blk_alloc ?_ _)); exact BK266.out) hb); have n1_ := Aside0.mk (below_step (by repeat (first | (with_reducible first | exact HB.out | apply below_alloc | apply pw_below_drewN | apply below_drew1 | refine below_set ?_ GE266.out) | exact HB.out)) hb); have n2_ := Aside0.mk (hbox); have n3_ := Aside0.mk ((by rw [hg]; exact (below_size (by repeat (first | (with_reducible first | exact HB.out | apply below_alloc | apply pw_below_drewN | apply below_drew1 | refine below_set ?_ GE266.out) | exact HB.out))) : w.heap.size ≤ gb267)); have n4_ := Aside0.mk ((by rw [hg]; exact (below_size (by repeat (first | (with_reducible first | exact HB.out | apply below_alloc | apply pw_below_drewN | apply below_drew1 | refine below_set ?_ GE266.out) | exact HB.out))) : w.heap.size ≤ gb267)); have n5_ := Aside0.mk ((by rw [hg]; exact Nat.ne_of_lt (blk_lt (g := gb266) (o := .cells #[.int .i64 a0_0, .slice A0_1 l0_1.length c0_1] 24 (0, 0)) (by (with_reducible repeat (first | refine blk_drewN ?_ _ | refine blk_drew ?_ | refine blk_alloc ?_ _)); exact BK266.out)) : gb266 ≠ gb267)); have n6_ := Aside0.mk ((by rw [hg]; exact Nat.ne_of_gt (blk_lt (g := gb266) (o := .cells #[.int .i64 a0_0, .slice A0_1 l0_1.length c0_1] 24 (0, 0)) (by (with_reducible repeat (first | refine blk_drewN ?_ _ | refine blk_drew ?_ | refine blk_alloc ?_ _)); exact BK266.out)) : gb267 ≠ gb266)); clear BK266; clear HB; have BK266 := n0_; have HB := n1_; have BK267 := n2_; have GW267 := n3_; have GE267 := n4_; have NB266_267 := n5_; have NB267_266 := n6_; clear n0_ n1_ n2_ n3_ n4_ n5_ n6_; clear hb hbox hg; have hnb38 := NB266_267.out; have hnc38 := NB267_266.out; have hcz39_0 : w37.cell? ⟨gb266, 0, none⟩ = some (.int .i64 a0_0) := (blk_cell BK266.out 0).trans rfl; have hcz39_1 : w37.cell? ⟨gb266, 1, none⟩ = some (.slice A0_1 l0_1.length c0_1) := (blk_cell BK266.out 1).trans rfl; have hfz39_0 := blk_frozen BK266.out 0; have hfz39_1 := blk_frozen BK266.out 1) | ((with_reducible refine gate_callee (f := 17) rfl ?_); refine goesL_ (some 6) rfl rfl Try.func17 (by kernel_rfl) rfl #[.agg #[.int .i64 a0_0, .slice A0_1 l0_1.length c0_1]] rfl (by (try simp only [List.map_toArray, List.map_cons, List.map_nil]); first | done | rfl | (simp only [List.length_drop, List.length_take]; rfl)) ?_; (with_reducible refine (forecourtref05_CheckYard.calls k a0_0 _ _ l0_1 t268 _ ?side1 ?side2 A3.out).mono ?_); (case side1 => repeat (first | exact (Kd.C_below HR0_1.out HB.out) | (with_reducible refine Kd.C_alloc ?_ _) | (with_reducible refine Kd.C_drewN ?_ _) | (with_reducible refine Kd.C_drew ?_))); (case side2 => exact HC0_1.out); rintro e w40 ⟨rfl, hb⟩; refine ⟨_, rfl, ?_⟩; have n0_ := Aside0.mk (blk_below (g := gb266) (o := .cells #[.int .i64 a0_0, .slice A0_1 l0_1.length c0_1] 24 (0, 0)) (by (with_reducible repeat (first | refine blk_drewN ?_ _ | refine blk_drew ?_ | refine blk_alloc ?_ _)); exact BK266.out) hb); have n1_ := Aside0.mk (blk_below (g := gb267) (o := .cells #[.int .i64 a1_0, .int .i64 a1_1] 26 (0, 0)) (by (with_reducible repeat (first | refine blk_drewN ?_ _ | refine blk_drew ?_ | refine blk_alloc ?_ _)); exact BK267.out) hb); have n2_ := Aside0.mk (below_step (by repeat (first | (with_reducible first | exact HB.out | apply below_alloc | apply pw_below_drewN | apply below_drew1 | refine below_set ?_ GE266.out | refine below_set ?_ GE267.out) | exact HB.out)) hb); clear BK266; clear BK267; clear HB; have BK266 := n0_; have BK267 := n1_; have HB := n2_; clear n0_ n1_ n2_; (try clear hb); (try clear hb2); (try clear hk); (try clear hi); have hcz41_0 : w40.cell? ⟨gb266, 0, none⟩ = some (.int .i64 a0_0) := (blk_cell BK266.out 0).trans rfl; have hcz41_1 : w40.cell? ⟨gb266, 1, none⟩ = some (.slice A0_1 l0_1.length c0_1) := (blk_cell BK266.out 1).trans rfl; have hfz41_0 := blk_frozen BK266.out 0; have hfz41_1 := blk_frozen BK266.out 1; have hcz42_0 : w40.cell? ⟨gb267, 0, none⟩ = some (.int .i64 a1_0) := (blk_cell BK267.out 0).trans rfl; have hcz42_1 : w40.cell? ⟨gb267, 1, none⟩ = some (.int .i64 a1_1) := (blk_cell BK267.out 1).trans rfl; have hfz42_0 := blk_frozen BK267.out 0; have hfz42_1 := blk_frozen BK267.out 1) | ((with_reducible refine gate_callee (f := 51) rfl ?_); refine goesL_ (some 13) rfl rfl Try.func51 (by kernel_rfl) rfl #[.agg #[.int .i64 a0_0, .slice A0_1 l0_1.length c0_1], .int .i64 a1_0] rfl (by (try simp only [List.map_toArray, List.map_cons, List.map_nil]); first | done | rfl | (simp only [List.length_drop, List.length_take]; rfl)) ?_; (with_reducible refine (forecourtref05_Is.calls a0_0 _ _ l0_1 a1_0 false _ ?side1 ?side2 A5.out).mono ?_); (case side1 => repeat (first | exact (Kd.C_below HR0_1.out HB.out) | (with_reducible refine Kd.C_alloc ?_ _) | (with_reducible refine Kd.C_drewN ?_ _) | (with_reducible refine Kd.C_drew ?_))); (case side2 => exact HC0_1.out); rintro e w43 ⟨rfl, hb⟩; refine ⟨_, rfl, ?_⟩; have n0_ := Aside0.mk (blk_below (g := gb266) (o := .cells #[.int .i64 a0_0, .slice A0_1 l0_1.length c0_1] 24 (0, 0)) (by (with_reducible repeat (first | refine blk_drewN ?_ _ | refine blk_drew ?_ | refine blk_alloc ?_ _)); exact BK266.out) hb); have n1_ := Aside0.mk (blk_below (g := gb267) (o := .cells #[.int .i64 a1_0, .int .i64 a1_1] 26 (0, 0)) (by (with_reducible repeat (first | refine blk_drewN ?_ _ | refine blk_drew ?_ | refine blk_alloc ?_ _)); exact BK267.out) hb); have n2_ := Aside0.mk (below_step (by repeat (first | (with_reducible first | exact HB.out | apply below_alloc | apply pw_below_drewN | apply below_drew1 | refine below_set ?_ GE266.out | refine below_set ?_ GE267.out) | exact HB.out)) hb); clear BK266; clear BK267; clear HB; have BK266 := n0_; have BK267 := n1_; have HB := n2_; clear n0_ n1_ n2_; (try clear hb); (try clear hb2); (try clear hk); (try clear hi)))
      go_ret
      exact ⟨by first | rfl | (simp [errW_none, errW_some] <;> rfl) | (simp [*, errW_none, errW_some] <;> rfl), by repeat (first | (with_reducible first | exact HB.out | apply below_alloc | apply pw_below_drewN | apply below_drew1 | refine below_set ?_ GE266.out | refine below_set ?_ GE267.out) | exact HB.out)⟩
  · rw [if_neg c4] at H
    have c4b0 : (t268 == 0) = false := beq_eq_false_iff_ne.mpr c4
    have c4b1 : (t268 != 0) = true := bne_iff_ne.mpr c4
    replace H := Option.bind_eq_some_iff.mp H
    obtain ⟨t270, A440, H⟩ := H
    replace H : (some t270) = some r := H
    have A44 := Aside0.mk A440
    clear A440
    obtain rfl := Option.some.inj H
    go_enter Try.func42, Try.ntmps42
    go_wp2_with (first | ((with_reducible refine gate_dst (N := 2) rfl ?_); refine box_event ?hg (N := 2) ?hd (cs := #[.int .i64 a0_0, .slice A0_1 l0_1.length c0_1]) (t := 24) ?hr ?_; (case hd => rfl); (case hg => rfl); (case hr => first | (go_simp; done) | (go_simp; rfl)); intro gb266 hg w45 hbox hb; have n0_ := Aside0.mk (below_step (by repeat (first | (with_reducible first | exact HB.out | apply below_alloc | apply pw_below_drewN | apply below_drew1) | exact HB.out)) hb); have n1_ := Aside0.mk (hbox); have n2_ := Aside0.mk ((by rw [hg]; exact (below_size (by repeat (first | (with_reducible first | exact HB.out | apply below_alloc | apply pw_below_drewN | apply below_drew1) | exact HB.out))) : w.heap.size ≤ gb266)); have n3_ := Aside0.mk ((by rw [hg]; exact (below_size (by repeat (first | (with_reducible first | exact HB.out | apply below_alloc | apply pw_below_drewN | apply below_drew1) | exact HB.out))) : w.heap.size ≤ gb266)); clear HB; have HB := n0_; have BK266 := n1_; have GW266 := n2_; have GE266 := n3_; clear n0_ n1_ n2_ n3_; clear hb hbox hg) | ((with_reducible refine gate_dst (N := 3) rfl ?_); refine box_event ?hg (N := 3) ?hd (cs := #[.int .i64 a1_0, .int .i64 a1_1]) (t := 26) ?hr ?_; (case hd => rfl); (case hg => rfl); (case hr => first | (go_simp; done) | (go_simp; rfl)); intro gb267 hg w46 hbox hb; have n0_ := Aside0.mk (blk_below (g := gb266) (o := .cells #[.int .i64 a0_0, .slice A0_1 l0_1.length c0_1] 24 (0, 0)) (by (with_reducible repeat (first | refine blk_drewN ?_ _ | refine blk_drew ?_ | refine blk_alloc ?_ _)); exact BK266.out) hb); have n1_ := Aside0.mk (below_step (by repeat (first | (with_reducible first | exact HB.out | apply below_alloc | apply pw_below_drewN | apply below_drew1 | refine below_set ?_ GE266.out) | exact HB.out)) hb); have n2_ := Aside0.mk (hbox); have n3_ := Aside0.mk ((by rw [hg]; exact (below_size (by repeat (first | (with_reducible first | exact HB.out | apply below_alloc | apply pw_below_drewN | apply below_drew1 | refine below_set ?_ GE266.out) | exact HB.out))) : w.heap.size ≤ gb267)); have n4_ := Aside0.mk ((by rw [hg]; exact (below_size (by repeat (first | (with_reducible first | exact HB.out | apply below_alloc | apply pw_below_drewN | apply below_drew1 | refine below_set ?_ GE266.out) | exact HB.out))) : w.heap.size ≤ gb267)); have n5_ := Aside0.mk ((by rw [hg]; exact Nat.ne_of_lt (blk_lt (g := gb266) (o := .cells #[.int .i64 a0_0, .slice A0_1 l0_1.length c0_1] 24 (0, 0)) (by (with_reducible repeat (first | refine blk_drewN ?_ _ | refine blk_drew ?_ | refine blk_alloc ?_ _)); exact BK266.out)) : gb266 ≠ gb267)); have n6_ := Aside0.mk ((by rw [hg]; exact Nat.ne_of_gt (blk_lt (g := gb266) (o := .cells #[.int .i64 a0_0, .slice A0_1 l0_1.length c0_1] 24 (0, 0)) (by (with_reducible repeat (first | refine blk_drewN ?_ _ | refine blk_drew ?_ | refine blk_alloc ?_ _)); exact BK266.out)) : gb267 ≠ gb266)); clear BK266; clear HB; have BK266 := n0_; have HB := n1_; have BK267 := n2_; have GW267 := n3_; have GE267 := n4_; have NB266_267 := n5_; have NB267_266 := n6_; clear n0_ n1_ n2_ n3_ n4_ n5_ n6_; clear hb hbox hg; have hnb47 := NB266_267.out; have hnc47 := NB267_266.out; have hcz48_0 : w46.cell? ⟨gb266, 0, none⟩ = some (.int .i64 a0_0) := (blk_cell BK266.out 0).trans rfl; have hcz48_1 : w46.cell? ⟨gb266, 1, none⟩ = some (.slice A0_1 l0_1.length c0_1) := (blk_cell BK266.out 1).trans rfl; have hfz48_0 := blk_frozen BK266.out 0; have hfz48_1 := blk_frozen BK266.out 1) | ((with_reducible refine gate_callee (f := 17) rfl ?_); refine goesL_ (some 6) rfl rfl Try.func17 (by kernel_rfl) rfl #[.agg #[.int .i64 a0_0, .slice A0_1 l0_1.length c0_1]] rfl (by (try simp only [List.map_toArray, List.map_cons, List.map_nil]); first | done | rfl | (simp only [List.length_drop, List.length_take]; rfl)) ?_; (with_reducible refine (forecourtref05_CheckYard.calls k a0_0 _ _ l0_1 t268 _ ?side1 ?side2 A3.out).mono ?_); (case side1 => repeat (first | exact (Kd.C_below HR0_1.out HB.out) | (with_reducible refine Kd.C_alloc ?_ _) | (with_reducible refine Kd.C_drewN ?_ _) | (with_reducible refine Kd.C_drew ?_))); (case side2 => exact HC0_1.out); rintro e w49 ⟨rfl, hb⟩; refine ⟨_, rfl, ?_⟩; have n0_ := Aside0.mk (blk_below (g := gb266) (o := .cells #[.int .i64 a0_0, .slice A0_1 l0_1.length c0_1] 24 (0, 0)) (by (with_reducible repeat (first | refine blk_drewN ?_ _ | refine blk_drew ?_ | refine blk_alloc ?_ _)); exact BK266.out) hb); have n1_ := Aside0.mk (blk_below (g := gb267) (o := .cells #[.int .i64 a1_0, .int .i64 a1_1] 26 (0, 0)) (by (with_reducible repeat (first | refine blk_drewN ?_ _ | refine blk_drew ?_ | refine blk_alloc ?_ _)); exact BK267.out) hb); have n2_ := Aside0.mk (below_step (by repeat (first | (with_reducible first | exact HB.out | apply below_alloc | apply pw_below_drewN | apply below_drew1 | refine below_set ?_ GE266.out | refine below_set ?_ GE267.out) | exact HB.out)) hb); clear BK266; clear BK267; clear HB; have BK266 := n0_; have BK267 := n1_; have HB := n2_; clear n0_ n1_ n2_; (try clear hb); (try clear hb2); (try clear hk); (try clear hi); have hcz50_0 : w49.cell? ⟨gb266, 0, none⟩ = some (.int .i64 a0_0) := (blk_cell BK266.out 0).trans rfl; have hcz50_1 : w49.cell? ⟨gb266, 1, none⟩ = some (.slice A0_1 l0_1.length c0_1) := (blk_cell BK266.out 1).trans rfl; have hfz50_0 := blk_frozen BK266.out 0; have hfz50_1 := blk_frozen BK266.out 1) | ((with_reducible refine gate_callee (f := 17) rfl ?_); refine goesL_ (some 9) rfl rfl Try.func17 (by kernel_rfl) rfl #[.agg #[.int .i64 a0_0, .slice A0_1 l0_1.length c0_1]] rfl (by (try simp only [List.map_toArray, List.map_cons, List.map_nil]); first | done | rfl | (simp only [List.length_drop, List.length_take]; rfl)) ?_; (with_reducible refine (forecourtref05_CheckYard.calls k a0_0 _ _ l0_1 t270 _ ?side1 ?side2 A44.out).mono ?_); (case side1 => repeat (first | exact (Kd.C_below HR0_1.out HB.out) | (with_reducible refine Kd.C_alloc ?_ _) | (with_reducible refine Kd.C_drewN ?_ _) | (with_reducible refine Kd.C_drew ?_))); (case side2 => exact HC0_1.out); rintro e w51 ⟨rfl, hb⟩; refine ⟨_, rfl, ?_⟩; have n0_ := Aside0.mk (blk_below (g := gb266) (o := .cells #[.int .i64 a0_0, .slice A0_1 l0_1.length c0_1] 24 (0, 0)) (by (with_reducible repeat (first | refine blk_drewN ?_ _ | refine blk_drew ?_ | refine blk_alloc ?_ _)); exact BK266.out) hb); have n1_ := Aside0.mk (blk_below (g := gb267) (o := .cells #[.int .i64 a1_0, .int .i64 a1_1] 26 (0, 0)) (by (with_reducible repeat (first | refine blk_drewN ?_ _ | refine blk_drew ?_ | refine blk_alloc ?_ _)); exact BK267.out) hb); have n2_ := Aside0.mk (below_step (by repeat (first | (with_reducible first | exact HB.out | apply below_alloc | apply pw_below_drewN | apply below_drew1 | refine below_set ?_ GE266.out | refine below_set ?_ GE267.out) | exact HB.out)) hb); clear BK266; clear BK267; clear HB; have BK266 := n0_; have BK267 := n1_; have HB := n2_; clear n0_ n1_ n2_; (try clear hb); (try clear hb2); (try clear hk); (try clear hi)))
    go_ret
    exact ⟨by first | rfl | (simp [errW_none, errW_some] <;> rfl) | (simp [*, errW_none, errW_some] <;> rfl), by repeat (first | (with_reducible first | exact HB.out | apply below_alloc | apply pw_below_drewN | apply below_drew1 | refine below_set ?_ GE266.out | refine below_set ?_ GE267.out) | exact HB.out)⟩

/-! ### forecourtref05_isVessel: function 57 -/
def forecourtref05_isVessel.f (k : Nat) (a0_0 : Int) (l0_1 : List (S58)) (a1_0 : Int) (a1_1 : Int) (a2 : Int) : Option (Int) := (forecourtref05_IsStart.f k a0_0 l0_1 a1_0 a1_1).bind fun t273 => (if t273 = 0 then ((forecourtref05_Is.f a0_0 l0_1 a2).bind fun t274 => (if t274 = true then (some 0) else (some 3))) else ((forecourtref05_IsStart.f k a0_0 l0_1 a1_0 a1_1).bind fun t275 => (some t275)))
end Go.Proofs.Ytfhmepdbbhcncaa.P

namespace Go.Proofs.Ytfhmepdbbhcncaa.P
open Go.RowKit Go.Proofs.YtfhmepdbbhcncaaW.PrintWords Go.Proofs.YtfhmepdbbhcncaaW.PrintLast Go.Proofs.YtfhmepdbbhcncaaW.PrintMore
set_option linter.unusedVariables false
set_option linter.unusedSimpArgs false

theorem rdT (l : List S58) (i : Nat) (h : i < l.length) : rd_T58 l (i : Int) = l[i] := by simp [rd_T58, List.getD, h]
theorem rdI (l : List Int) (i : Nat) (h : i < l.length) : rd l (i : Int) = l[i] := by simp [rd, List.getD, h]
theorem wrap_ok (x : Int) (h0 : -9223372036854775808 ≤ x) (h1 : x ≤ 9223372036854775807) : wrap64 x = x := by
  unfold wrap64
  omega
theorem wrap_next (i : Nat) (h : i ≤ 1000000000) : wrap64 ((i : Int) + 1) = ((i + 1 : Nat) : Int) := by
  rw [wrap_ok] <;> omega
/-- What is wrong with a move. -/
def BadM (n : Int) (m : S58) : Prop := m.f0 < 0 ∨ n ≤ m.f0 ∨ m.f1 < 0 ∨ n ≤ m.f1 ∨ m.f0 = m.f1 ∨ m.f2.f0 < 0 ∨ m.f2.f1 < m.f2.f0 ∨ 100000 < m.f2.f1
theorem badMove_iff (n : Int) (m : S58) : badMove n m = true ↔ BadM n m := by
  unfold badMove withinB BadM
  simp only [List.all_cons, List.all_nil, Bool.and_true, Bool.or_eq_true, Bool.not_eq_true', Bool.and_eq_false_iff, decide_eq_false_iff_not, decide_eq_true_eq]
  omega
theorem is_eq (n : Int) (l : List S58) (v : Int) : forecourtref05_Is.f n l v = some (isV n v) := by
  unfold forecourtref05_Is.f isV
  by_cases h : 0 ≤ v <;> simp [h]
theorem refCY_l0 (n : Int) (l : List S58) (hl : l.length ≤ 1000) : ∀ (k i : Nat), l.length < k + i → i ≤ l.length → forecourtref05_CheckYard.l0 k (i : Int) n l = some (if (l.drop i).any (badMove n) then 3 else 0)
  | 0, i, h, hi => by omega
  | k + 1, i, h, hi => by
    unfold forecourtref05_CheckYard.l0
    by_cases hlt : i < l.length
    · have e : l.drop i = l[i] :: l.drop (i + 1) := List.drop_eq_getElem_cons hlt
      rw [if_pos (by omega), if_pos (by omega), wrap_next i (by omega), refCY_l0 n l hl k (i + 1) (by omega) (by omega), rdT l i hlt, e, List.any_cons]
      generalize l[i] = m
      generalize (l.drop (i + 1)).any (badMove n) = rest
      rw [is_eq, is_eq]
      simp only [Option.bind_some]
      by_cases hb : BadM n m
      · rw [(badMove_iff n m).2 hb, Bool.true_or, if_pos rfl]
        unfold BadM at hb
        unfold isV
        repeat' split
        all_goals (first | rfl | (exfalso; simp only [Bool.and_eq_true, decide_eq_true_eq] at *; omega))
      · have hb' : badMove n m = false := by
          cases h : badMove n m with
          | false => rfl
          | true => exact absurd ((badMove_iff n m).1 h) hb
        rw [hb', Bool.false_or]
        unfold BadM at hb
        rw [if_pos (by unfold isV; simp only [Bool.and_eq_true, decide_eq_true_eq]; omega), if_pos (by unfold isV; simp only [Bool.and_eq_true, decide_eq_true_eq]; omega), if_neg (by omega), if_neg (by omega), if_neg (by omega), if_neg (by omega)]
    · have : i = l.length := by omega
      rw [if_neg (by omega), this, List.drop_length]
      rfl
theorem refCY (n : Int) (l : List S58) (hl : l.length ≤ 1000) (k : Nat) (hk : 1002 ≤ k) : forecourtref05_CheckYard.f k n l = some (checkYard n l) := by
  obtain ⟨k, rfl⟩ : ∃ j, k = j + 1 := ⟨k - 1, by omega⟩
  unfold forecourtref05_CheckYard.f checkYard
  have h0 := refCY_l0 n l hl k 0 (by omega) (by omega)
  rw [List.drop_zero] at h0
  rw [forecourtref05_CheckYard.j0, forecourtref05_CheckYard.j0]
  by_cases h1 : n < 1
  · rw [if_pos h1, if_pos rfl, if_pos (Or.inl h1)]
  · by_cases h2 : 20 < n
    · rw [if_neg h1, if_pos (decide_eq_true h2), if_pos (Or.inr h2)]
    · rw [if_neg h1, if_neg (by simp only [decide_eq_true_eq]; omega), if_neg (show ¬ (n < 1 ∨ 20 < n) by omega)]
      by_cases h3 : 40 < l.length
      · rw [if_pos (by omega), if_pos h3]
      · rw [if_neg (by omega), if_neg h3]
        exact h0
theorem refIsStart (n : Int) (l : List S58) (sv st : Int) (hl : l.length ≤ 1000) (k : Nat) (hk : 1002 ≤ k) : forecourtref05_IsStart.f k n l sv st = some (openE n l sv st []) := by
  unfold forecourtref05_IsStart.f openE
  rw [refCY n l hl k hk, is_eq]
  simp only [Option.bind_some, List.any_nil]
  generalize checkYard n l = c
  by_cases h0 : c = 0
  · subst h0
    cases hv : isV n sv with
    | false => simp
    | true =>
      unfold withinB
      by_cases h1 : st < 0
      · have : ¬ (0 ≤ st) := by omega
        simp [h1, this]
      · by_cases h2 : st > 100000
        · have : ¬ (st ≤ 100000) := by omega
          simp [h1, h2, this]
        · have h3 : st ≤ 100000 := by omega
          have h4 : 0 ≤ st := by omega
          have h5 : ¬ (100000 < st) := by omega
          simp [h1, h3, h4, h5]
  · simp [h0]
theorem open_parts {n : Int} {l : List S58} {sv st : Int} {vs : List Int} (h : openE n l sv st vs = 0) : YardOK n l ∧ (0 ≤ sv ∧ sv < n) ∧ (0 ≤ st ∧ st ≤ 100000) ∧ ∀ v ∈ vs, 0 ≤ v ∧ v < n := by
  unfold openE at h
  split at h
  · contradiction
  · rename_i h0
    split at h
    · cases h
    · rename_i h1
      split at h
      · cases h
      · rename_i h2
        unfold isV withinB at h1
        simp only [List.all_cons, List.all_nil, Bool.and_true, Bool.and_eq_false_iff, decide_eq_false_iff_not, not_or, Classical.not_not] at h1
        refine ⟨yardOK (Classical.not_not.1 h0), by omega, by omega, fun v hv => ?_⟩
        have : isV n v = true := by
          cases hi : isV n v with
          | true => rfl
          | false => exact absurd (List.any_eq_true.2 ⟨v, hv, by simp [hi]⟩) h2
        unfold isV at this
        simp only [Bool.and_eq_true, decide_eq_true_eq] at this
        exact this
end Go.Proofs.Ytfhmepdbbhcncaa.P

namespace Go.Proofs.Ytfhmepdbbhcncaa.P
open Go.RowKit Go.Proofs.YtfhmepdbbhcncaaW.PrintWords Go.Proofs.YtfhmepdbbhcncaaW.PrintLast Go.Proofs.YtfhmepdbbhcncaaW.PrintMore
set_option linter.unusedVariables false
set_option linter.unusedSimpArgs false

/-! The search by the first one, and what it finds: the greatest times that are right. -/
/-- The time of a vessel. -/
def gc (c : List Int) (v : Int) : Int := c.getD v.toNat 0
theorem gc_set (c : List Int) (u v t : Int) (hu : 0 ≤ u) (hv : 0 ≤ v) (hl : v.toNat < c.length) : gc (c.set u.toNat t) v = if v = u then t else gc c v := by
  unfold gc
  by_cases h : v = u
  · subst h; simp [List.getD, hl]
  · have : u.toNat ≠ v.toNat := by omega
    rw [if_neg h, List.getD_eq_getElem?_getD, List.getD_eq_getElem?_getD, List.getElem?_set_ne this]
/-- What a step by a move does. -/
structure StepOK (step : Int → S58 → Int × Bool) (l : List S58) : Prop where
  mono : ∀ m ∈ l, ∀ t t', t ≤ t' → (step t' m).2 = true → (step t m).2 = true ∧ (step t m).1 ≤ (step t' m).1
  infl : ∀ m ∈ l, ∀ t, (step t m).2 = true → t ≤ (step t m).1
  bnd : ∀ m ∈ l, ∀ t, (step t m).2 = true → (step t m).1 ≤ 100000
theorem StepOK.soon {n : Int} {l : List S58} (hy : YardOK n l) : StepOK soonF l where
  mono := fun m hm t t' h ok => by
    simp only [soonF, decide_eq_true_eq] at ok ⊢
    omega
  infl := fun m hm t ok => by simp only [soonF]; omega
  bnd := fun m hm t ok => by
    have := hy.mv m hm
    simp only [soonF, decide_eq_true_eq] at ok ⊢
    omega
theorem StepOK.sure {n : Int} {l : List S58} (hy : YardOK n l) : StepOK sureF l where
  mono := fun m hm t t' h ok => by
    simp only [sureF, decide_eq_true_eq] at ok ⊢
    omega
  infl := fun m hm t ok => by
    have := hy.mv m hm
    simp only [sureF, decide_eq_true_eq] at ok ⊢
    omega
  bnd := fun m hm t ok => by
    have := hy.mv m hm
    simp only [sureF, decide_eq_true_eq] at ok ⊢
    omega
theorem leastF_le (f : Int → Int) : ∀ (xs : List Int) (x y : Int), y ∈ x :: xs → f (xs.foldl (leastStep f) x) ≤ f y
  | [], x, y, h => by
    rw [List.mem_singleton] at h; subst h; exact Int.le_refl _
  | z :: zs, x, y, h => by
    rw [List.foldl_cons]
    have hb : f (leastStep f x z) ≤ f x ∧ f (leastStep f x z) ≤ f z := by
      unfold leastStep
      split <;> omega
    have hr := leastF_le f zs (leastStep f x z) (leastStep f x z) (List.mem_cons_self ..)
    rcases List.mem_cons.1 h with rfl | h
    · omega
    · rcases List.mem_cons.1 h with rfl | h
      · omega
      · exact leastF_le f zs _ y (List.mem_cons_of_mem _ h)
theorem leastF_in (f : Int → Int) (left : List Int) (h : left ≠ []) : leastF f left ∈ left ∧ ∀ y ∈ left, f (leastF f left) ≤ f y := by
  cases left with
  | nil => exact absurd rfl h
  | cons x xs => exact ⟨leastF_mem f xs x, fun y hy => leastF_le f xs x y hy⟩
/-- While the moves out of v are made. -/
structure FI (step : Int → S58 → Int × Bool) (may : S58 → Bool) (l : List S58) (v : Int) (left : List Int) (c0 : List Int) (b0 : Int → Option Int) (k : Nat) (s : List Int × (Int → Option Int)) : Prop where
  len : s.1.length = 20
  le : ∀ w, 0 ≤ w → w < 20 → gc s.1 w ≤ gc c0 w
  same : ∀ w, 0 ≤ w → w < 20 → w ∉ left → gc s.1 w = gc c0 w
  src : ∀ w, 0 ≤ w → w < 20 → (gc s.1 w = gc c0 w ∧ s.2 w = b0 w) ∨ ∃ i, ∃ h : i < l.length, l[i].f0 = v ∧ l[i].f1 = w ∧ may l[i] = true ∧ (step (gc c0 v) l[i]).2 = true ∧ gc s.1 w = (step (gc c0 v) l[i]).1 ∧ s.2 w = some (i : Int) ∧ w ∈ left
  clo : ∀ i (h : i < l.length), i < k → l[i].f0 = v → may l[i] = true → (step (gc c0 v) l[i]).2 = true → gc s.1 l[i].f1 ≤ (step (gc c0 v) l[i]).1
theorem fold_FI {step : Int → S58 → Int × Bool} {may : S58 → Bool} {n : Int} {l : List S58} (hy : YardOK n l) (hs : StepOK step l) {v : Int} {left : List Int} {c0 : List Int} {b0 : Int → Option Int} (hc : c0.length = 20)
    (hv0 : 0 ≤ v) (hv1 : v < n) (hvl : v ∉ left) (hlow : ∀ w, 0 ≤ w → w < n → w ∉ left → gc c0 w ≤ gc c0 v) : ∀ k, k ≤ l.length → FI step may l v left c0 b0 k ((outsTo v l k).foldl (bodyF step may v) (c0, b0))
  | 0, _ => ⟨hc, fun _ _ _ => Int.le_refl _, fun _ _ _ _ => rfl, fun _ _ _ => .inl ⟨rfl, rfl⟩, fun i _ h => absurd h (Nat.not_lt_zero _)⟩
  | k + 1, hk => by
    have ih := fold_FI (may := may) (b0 := b0) hy hs hc hv0 hv1 hvl hlow k (by omega)
    rw [outsTo, List.foldl_append]
    have eg : l.getD k z58 = l[k] := by simp [List.getD, show k < l.length by omega]
    rw [eg]
    generalize (outsTo v l k).foldl (bodyF step may v) (c0, b0) = s at ih
    have hn := hy.n2
    have hm := hy.mv l[k] (List.getElem_mem (by omega))
    by_cases hf : l[k].f0 = v
    · rw [if_pos hf, List.foldl_cons, List.foldl_nil]
      have eg2 : s.1.getD v.toNat 0 = gc c0 v := ih.same v hv0 (by omega) hvl
      unfold bodyF
      simp only
      rw [eg2]
      split
      · rename_i hcond
        obtain ⟨hok, hmay, hlt⟩ := hcond
        have hlt' : (step (gc c0 v) l[k]).1 < gc s.1 l[k].f1 := hlt
        have hin : l[k].f1 ∈ left := by
          cases Classical.em (l[k].f1 ∈ left) with
          | inl h => exact h
          | inr h =>
            have h1 := ih.same l[k].f1 (by omega) (by omega) h
            have h2 := hlow l[k].f1 (by omega) (by omega) h
            have h3 := hs.infl l[k] (List.getElem_mem (by omega)) _ hok
            omega
        have hg : ∀ w, 0 ≤ w → w < 20 → gc (s.1.set l[k].f1.toNat (step (gc c0 v) l[k]).1) w = if w = l[k].f1 then (step (gc c0 v) l[k]).1 else gc s.1 w := fun w h0 h1 =>
          gc_set s.1 l[k].f1 w _ (by omega) h0 (by rw [ih.len]; omega)
        refine ⟨by simp [ih.len], fun w h0 h1 => ?_, fun w h0 h1 hw => ?_, fun w h0 h1 => ?_, fun i hi hik hf0 hm2 hok2 => ?_⟩
        · have := ih.le w h0 h1
          simp only [hg w h0 h1]
          split
          · rename_i e; subst e; omega
          · exact this
        · have hne : w ≠ l[k].f1 := fun e => hw (e ▸ hin)
          simp only [hg w h0 h1]
          rw [if_neg hne]
          exact ih.same w h0 h1 hw
        · by_cases e : w = l[k].f1
          · subst e
            exact .inr ⟨k, by omega, hf, rfl, hmay, hok, by simp only [hg _ h0 h1]; simp, by simp, hin⟩
          · simp only [hg w h0 h1, if_neg e]
            exact ih.src w h0 h1
        · have hmi := hy.mv l[i] (List.getElem_mem hi)
          simp only [hg l[i].f1 (by omega) (by omega)]
          by_cases hie : i = k
          · subst hie; simp
          · have := ih.clo i hi (by omega) hf0 hm2 hok2
            split
            · rename_i e
              rw [e] at this
              omega
            · exact this
      · rename_i hcond
        refine ⟨ih.len, ih.le, ih.same, ih.src, fun i hi hik hf0 hm2 hok2 => ?_⟩
        by_cases hie : i = k
        · subst hie
          cases Int.lt_or_le (step (gc c0 v) l[i]).1 (gc s.1 l[i].f1) with
          | inl h => exact absurd ⟨hok2, hm2, h⟩ hcond
          | inr h => exact h
        · exact ih.clo i hi (by omega) hf0 hm2 hok2
    · rw [if_neg hf, List.foldl_nil]
      refine ⟨ih.len, ih.le, ih.same, ih.src, fun i hi hik hf0 hm2 hok2 => ?_⟩
      by_cases hie : i = k
      · subst hie; exact absurd hf0 hf
      · exact ih.clo i hi (by omega) hf0 hm2 hok2
/-- Between the rounds of the search. -/
structure DI (step : Int → S58 → Int × Bool) (may : S58 → Bool) (n : Int) (l : List S58) (sv st : Int) (left : List Int) (s : List Int × (Int → Option Int)) (rk : Int → Nat) : Prop where
  len : s.1.length = 20
  sub : ∀ v ∈ left, 0 ≤ v ∧ v < n
  cnt : left.length ≤ n.toNat
  rng : ∀ v, 0 ≤ v → v < n → (0 ≤ gc s.1 v ∧ gc s.1 v ≤ 100000) ∨ gc s.1 v = 1048576
  own : gc s.1 sv = st
  low : ∀ v, 0 ≤ v → v < n → st ≤ gc s.1 v
  mon : ∀ u v, 0 ≤ u → u < n → u ∉ left → v ∈ left → gc s.1 u ≤ gc s.1 v
  fin : ∀ u, 0 ≤ u → u < n → u ∉ left → gc s.1 u ≠ 1048576
  clo : ∀ m ∈ l, m.f0 ∉ left → may m = true → (step (gc s.1 m.f0) m).2 = true → gc s.1 m.f1 ≤ (step (gc s.1 m.f0) m).1
  sup : ∀ v, 0 ≤ v → v < n → gc s.1 v ≠ 1048576 → v ≠ sv → ∃ i, ∃ h : i < l.length, s.2 v = some (i : Int) ∧ l[i].f1 = v ∧ may l[i] = true ∧ l[i].f0 ∉ left ∧ (step (gc s.1 l[i].f0) l[i]).2 = true ∧ gc s.1 v = (step (gc s.1 l[i].f0) l[i]).1 ∧ (v ∉ left → rk l[i].f0 < rk v)
  rkb : ∀ v, 0 ≤ v → v < n → v ∉ left → rk v + left.length < n.toNat
/-- What the search has found. -/
structure Found (step : Int → S58 → Int × Bool) (may : S58 → Bool) (n : Int) (l : List S58) (sv st : Int) (s : List Int × (Int → Option Int)) (rk : Int → Nat) : Prop where
  len : s.1.length = 20
  rng : ∀ v, 0 ≤ v → v < n → (0 ≤ gc s.1 v ∧ gc s.1 v ≤ 100000) ∨ gc s.1 v = 1048576
  own : gc s.1 sv = st
  low : ∀ v, 0 ≤ v → v < n → st ≤ gc s.1 v
  clo : ∀ m ∈ l, may m = true → (step (gc s.1 m.f0) m).2 = true → gc s.1 m.f1 ≤ (step (gc s.1 m.f0) m).1
  sup : ∀ v, 0 ≤ v → v < n → gc s.1 v ≠ 1048576 → v ≠ sv → ∃ i, ∃ h : i < l.length, s.2 v = some (i : Int) ∧ l[i].f1 = v ∧ may l[i] = true ∧ gc s.1 l[i].f0 ≠ 1048576 ∧ (step (gc s.1 l[i].f0) l[i]).2 = true ∧ gc s.1 v = (step (gc s.1 l[i].f0) l[i]).1 ∧ rk l[i].f0 < rk v
  rkb : ∀ v, 0 ≤ v → v < n → gc s.1 v ≠ 1048576 → rk v < n.toNat
theorem DI.found {step : Int → S58 → Int × Bool} {may : S58 → Bool} {n : Int} {l : List S58} (hy : YardOK n l) (hs : StepOK step l) {sv st : Int} {left : List Int} {s : List Int × (Int → Option Int)} {rk : Int → Nat}
    (h : DI step may n l sv st left s rk) (hl : ∀ v ∈ left, gc s.1 v = 1048576) : Found step may n l sv st s rk := by
  have hnot : ∀ v, gc s.1 v ≠ 1048576 → v ∉ left := fun v hv hm => hv (hl v hm)
  refine ⟨h.len, h.rng, h.own, h.low, fun m hm hmay hok => ?_, fun v h0 h1 hv hne => ?_, fun v h0 h1 hv => ?_⟩
  · refine h.clo m hm (fun hin => ?_) hmay hok
    have e := hl _ hin
    have h1 := hs.infl m hm _ hok
    have h2 := hs.bnd m hm _ hok
    omega
  · obtain ⟨i, hi, hb, hf, hmay, hnl, hok, hg, hr⟩ := h.sup v h0 h1 hv hne
    have hm := hy.mv l[i] (List.getElem_mem hi)
    exact ⟨i, hi, hb, hf, hmay, h.fin _ (by omega) (by omega) hnl, hok, hg, hr (hnot v hv)⟩
  · have := h.rkb v h0 h1 (hnot v hv)
    omega
theorem DI.step {step : Int → S58 → Int × Bool} {may : S58 → Bool} {n : Int} {l : List S58} (hy : YardOK n l) (hs : StepOK step l) {sv st : Int} (hst : 0 ≤ st) (hsv : 0 ≤ sv ∧ sv < n) {left : List Int} {s : List Int × (Int → Option Int)} {rk : Int → Nat}
    (h : DI step may n l sv st left s rk) {v : Int} (hv : v ∈ left) (hmin : ∀ y ∈ left, gc s.1 v ≤ gc s.1 y) (hne : gc s.1 v ≠ 1048576) :
    DI step may n l sv st (left.filter fun o => !(o == v)) ((outsTo v l l.length).foldl (bodyF step may v) s) (fun w => if w = v then n.toNat - left.length else rk w) := by
  have hv' := h.sub v hv
  have hn := hy.n2
  have hmem : ∀ w, w ∈ (left.filter fun o => !(o == v)) ↔ w ∈ left ∧ w ≠ v := fun w => by simp
  have hnv : v ∉ (left.filter fun o => !(o == v)) := fun hh => ((hmem v).1 hh).2 rfl
  have hout : ∀ w, w ∉ (left.filter fun o => !(o == v)) → w ∉ left ∨ w = v := fun w hw => by
    cases Classical.em (w = v) with
    | inl e => exact .inr e
    | inr e => exact .inl fun hh => hw ((hmem w).2 ⟨hh, e⟩)
  have hlow : ∀ w, 0 ≤ w → w < n → w ∉ (left.filter fun o => !(o == v)) → gc s.1 w ≤ gc s.1 v := fun w h0 h1 hw => by
    rcases hout w hw with hw | rfl
    · exact h.mon w v h0 h1 hw hv
    · exact Int.le_refl _
  have hlen : (left.filter fun o => !(o == v)).length < left.length := by
    have h1 := List.length_filter_le (fun o => !(o == v)) left
    have h2 : (left.filter fun o => !(o == v)).length ≠ left.length := fun e => by
      have := (List.length_filter_eq_length_iff.1 e) v hv
      simp at this
    omega
  have F := fold_FI (may := may) (b0 := s.2) hy hs (c0 := s.1) h.len hv'.1 hv'.2 hnv hlow l.length (Nat.le_refl _)
  have es : (s.1, s.2) = s := rfl
  rw [es] at F
  have hcnt := h.cnt
  generalize (outsTo v l l.length).foldl (bodyF step may v) s = s' at F
  have hgev : ∀ w, 0 ≤ w → w < n → gc s'.1 w ≠ gc s.1 w → gc s.1 v ≤ gc s'.1 w ∧ gc s'.1 w ≤ 100000 := fun w h0 h1 hd => by
    rcases F.src w h0 (by omega) with ⟨e, _⟩ | ⟨i, hi, _, _, _, hok, hg, _, _⟩
    · exact absurd e hd
    · have h1 := hs.infl l[i] (List.getElem_mem hi) _ hok
      have h2 := hs.bnd l[i] (List.getElem_mem hi) _ hok
      omega
  have hvr : 0 ≤ gc s.1 v := by
    rcases h.rng v hv'.1 hv'.2 with e | e <;> omega
  refine ⟨F.len, fun w hw => h.sub w ((hmem w).1 hw).1, by omega, fun w h0 h1 => ?_, ?_, fun w h0 h1 => ?_, fun u w h0 h1 hu hw => ?_, fun u h0 h1 hu => ?_, fun m hm hf hmay hok => ?_, fun w h0 h1 hw hws => ?_, fun w h0 h1 hw => ?_⟩
  · by_cases e : gc s'.1 w = gc s.1 w
    · rw [e]; exact h.rng w h0 h1
    · have := hgev w h0 h1 e
      exact .inl (by omega)
  · have h1 := F.le sv hsv.1 (by omega)
    have h2 := h.own
    have h3 := h.low v hv'.1 hv'.2
    by_cases e : gc s'.1 sv = gc s.1 sv
    · omega
    · have := hgev sv hsv.1 hsv.2 e
      omega
  · have h3 := h.low v hv'.1 hv'.2
    by_cases e : gc s'.1 w = gc s.1 w
    · rw [e]; exact h.low w h0 h1
    · have := hgev w h0 h1 e
      omega
  · have hw' := (hmem w).1 hw
    have hwr := h.sub w hw'.1
    have e1 := F.same u h0 (by omega) hu
    have e2 := hlow u h0 h1 hu
    by_cases e : gc s'.1 w = gc s.1 w
    · have := hmin w hw'.1
      omega
    · have := hgev w hwr.1 hwr.2 e
      omega
  · rw [F.same u h0 (by omega) hu]
    rcases hout u hu with hu | rfl
    · exact h.fin u h0 h1 hu
    · exact hne
  · have hmm := hy.mv m hm
    rw [F.same m.f0 (by omega) (by omega) hf] at hok ⊢
    rcases hout m.f0 hf with hf' | hf'
    · have h1 := h.clo m hm hf' hmay hok
      have h2 := F.le m.f1 (by omega) (by omega)
      omega
    · obtain ⟨i, hi, rfl⟩ := List.getElem_of_mem hm
      rw [hf'] at hok ⊢
      exact F.clo i hi hi hf' hmay hok
  · rcases F.src w h0 (by omega) with ⟨e, eb⟩ | ⟨i, hi, hf, ht, hmay, hok, hg, hb, hin⟩
    · obtain ⟨i, hi, hb, hf, hmay, hnl, hok, hg, hr⟩ := h.sup w h0 h1 (by rw [← e]; exact hw) hws
      have hm := hy.mv l[i] (List.getElem_mem hi)
      have hnl' : l[i].f0 ∉ (left.filter fun o => !(o == v)) := fun hh => hnl ((hmem _).1 hh).1
      have esame := F.same l[i].f0 (by omega) (by omega) hnl'
      have hnev : l[i].f0 ≠ v := fun e => hnl (e ▸ hv)
      refine ⟨i, hi, eb.trans hb, hf, hmay, hnl', by rw [esame]; exact hok, by rw [esame, e]; exact hg, fun hwl => ?_⟩
      rw [if_neg hnev]
      rcases hout w hwl with hw3 | rfl
      · by_cases ew : w = v
        · subst ew; exact absurd hv hw3
        · rw [if_neg ew]; exact hr hw3
      · rw [if_pos rfl]
        have := h.rkb l[i].f0 (by omega) (by omega) hnl
        omega
    · have esame := F.same v hv'.1 (by omega) hnv
      refine ⟨i, hi, hb, ht, hmay, by rw [hf]; exact hnv, by rw [hf, esame]; exact hok, by rw [hf, esame]; exact hg, fun hwl => absurd hin hwl⟩
  · rcases hout w hw with hw' | rfl
    · by_cases ew : w = v
      · subst ew; exact absurd hv hw'
      · have := h.rkb w h0 h1 hw'
        rw [if_neg ew]
        omega
    · rw [if_pos rfl]
      omega
theorem runL_found {step : Int → S58 → Int × Bool} {may : S58 → Bool} {n : Int} {l : List S58} (hy : YardOK n l) (hs : StepOK step l) {sv st : Int} (hst : 0 ≤ st) (hsv : 0 ≤ sv ∧ sv < n) :
    ∀ (k : Nat) (left : List Int) (s : List Int × (Int → Option Int)) (rk : Int → Nat), DI step may n l sv st left s rk → left.length ≤ k → ∃ rk', Found step may n l sv st (runL step may l k left s) rk'
  | 0, left, s, rk, h, hk => by
    have : left = [] := List.length_eq_zero_iff.1 (by omega)
    subst this
    exact ⟨rk, h.found hy hs (fun v hv => by cases hv)⟩
  | k + 1, left, s, rk, h, hk => by
    rw [runL]
    by_cases hl : left = []
    · rw [if_pos hl]
      subst hl
      exact ⟨rk, h.found hy hs (fun v hv => by cases hv)⟩
    · rw [if_neg hl]
      have hin := leastF_in (fun v => s.1.getD v.toNat 0) left hl
      generalize leastF (fun v => s.1.getD v.toNat 0) left = v at hin
      simp only
      by_cases hv : s.1.getD v.toNat 0 = 1048576
      · rw [if_pos hv]
        refine ⟨rk, h.found hy hs (fun y hyl => ?_)⟩
        have h1 := hin.2 y hyl
        have h2 := h.sub y hyl
        have h3 := h.rng y h2.1 h2.2
        have h4 : gc s.1 y = s.1.getD y.toNat 0 := rfl
        omega
      · rw [if_neg hv]
        refine runL_found hy hs hst hsv k _ _ _ (h.step hy hs hst hsv hin.1 hin.2 hv) ?_
        have h1 := List.length_filter_le (fun o => !(o == v)) left
        have h2 : (left.filter fun o => !(o == v)).length ≠ left.length := fun e => by
          have := (List.length_filter_eq_length_iff.1 e) v hin.1
          simp at this
        omega
theorem gc_come0 (sv st v : Int) (hsv : 0 ≤ sv) (hv : 0 ≤ v) (hv2 : v < 20) : gc (come0 sv st) v = if v = sv then st else 1048576 := by
  unfold come0
  rw [gc_set _ _ _ _ hsv hv (by simp; omega)]
  split
  · rfl
  · unfold gc
    rw [List.getD_eq_getElem?_getD, List.getElem?_replicate, if_pos (by omega)]
    rfl
/-- The search finds. -/
theorem run_found {step : Int → S58 → Int × Bool} (may : S58 → Bool) {n : Int} {l : List S58} (hy : YardOK n l) (hs : StepOK step l) {sv st : Int} (hst : 0 ≤ st ∧ st ≤ 100000) (hsv : 0 ≤ sv ∧ sv < n) :
    ∃ rk, Found step may n l sv st (runC step may n l sv st) rk := by
  have hn := hy.n2
  have hall : ∀ v, 0 ≤ v → v < n → v ∈ (List.range n.toNat).map fun (i : Nat) => (i : Int) := fun v h0 h1 => List.mem_map.2 ⟨v.toNat, List.mem_range.2 (by omega), by omega⟩
  refine runL_found hy hs hst.1 hsv n.toNat _ _ (fun _ => 0) ⟨by simp [come0], fun v hv => ?_, by simp, fun v h0 h1 => ?_, ?_, fun v h0 h1 => ?_, fun u v h0 h1 hu => absurd (hall u h0 h1) hu, fun u h0 h1 hu => absurd (hall u h0 h1) hu, fun m hm hf => ?_, fun v h0 h1 hv hne => ?_, fun v h0 h1 hu => absurd (hall v h0 h1) hu⟩ (by simp)
  · obtain ⟨i, hi, rfl⟩ := List.mem_map.1 hv
    have := List.mem_range.1 hi
    omega
  · rw [gc_come0 sv st v hsv.1 h0 (by omega)]
    split
    · exact .inl hst
    · exact .inr rfl
  · rw [gc_come0 sv st sv hsv.1 hsv.1 (by omega), if_pos rfl]
  · rw [gc_come0 sv st v hsv.1 h0 (by omega)]
    split <;> omega
  · have hmm := hy.mv m hm
    exact absurd (hall m.f0 (by omega) (by omega)) hf
  · rw [gc_come0 sv st v hsv.1 h0 (by omega), if_neg hne] at hv
    exact absurd rfl hv
end Go.Proofs.Ytfhmepdbbhcncaa.P

namespace Go.Proofs.Ytfhmepdbbhcncaa.P
open Go.RowKit Go.Proofs.YtfhmepdbbhcncaaW.PrintWords Go.Proofs.YtfhmepdbbhcncaaW.PrintLast Go.Proofs.YtfhmepdbbhcncaaW.PrintMore
set_option linter.unusedVariables false
set_option linter.unusedSimpArgs false

/-! The document's rounds, and that they find what the search finds. -/
section
variable {step : Int → S58 → Int × Bool} {but : Int}
end
end Go.Proofs.Ytfhmepdbbhcncaa.P

namespace Go.Proofs.Ytfhmepdbbhcncaa.P
open Go.RowKit Go.Proofs.YtfhmepdbbhcncaaW.PrintWords Go.Proofs.YtfhmepdbbhcncaaW.PrintLast Go.Proofs.YtfhmepdbbhcncaaW.PrintMore
set_option linter.unusedVariables false
set_option linter.unusedSimpArgs false

/-! The way back, the trail, and the vessels that all trails pass. -/
theorem rdT' (l : List S58) (i : Nat) (h : i < l.length) : rd_T58 l (i : Int) = l[i] := by simp [rd_T58, List.getD, h]
/-- Moves by which one comes back to the start. -/
def WayB (step : Int → S58 → Int × Bool) (may : S58 → Bool) (l : List S58) (sv : Int) (s : List Int × (Int → Option Int)) (rk : Int → Nat) : Int → List Int → Prop
  | a, [] => a = sv
  | a, i :: w => ∃ j : Nat, ∃ h : j < l.length, i = (j : Int) ∧ a ≠ sv ∧ l[j].f1 = a ∧ may l[j] = true ∧ gc s.1 l[j].f0 ≠ 1048576 ∧ (step (gc s.1 l[j].f0) l[j]).2 = true ∧ gc s.1 a = (step (gc s.1 l[j].f0) l[j]).1 ∧ rk l[j].f0 < rk a ∧ WayB step may l sv s rk l[j].f0 w
section
variable {step : Int → S58 → Int × Bool} {may : S58 → Bool} {n : Int} {l : List S58} {sv st : Int} {s : List Int × (Int → Option Int)} {rk : Int → Nat}
theorem WayB.ix : ∀ (w : List Int) (a : Int), WayB step may l sv s rk a w → ∀ i ∈ w, 0 ≤ i ∧ i < (l.length : Int) ∧ may (rd_T58 l i) = true ∧ (rd_T58 l i).f1 ≠ sv ∧ rk (rd_T58 l i).f1 ≤ rk a
  | [], a, h, i, hi => by cases hi
  | x :: w, a, h, i, hi => by
    obtain ⟨j, hj, rfl, hne, hf1, hmay, _, hok, hg, hr, hW⟩ := h
    rcases List.mem_cons.1 hi with rfl | hi
    · rw [rdT' l j hj]
      exact ⟨by omega, by omega, hmay, by rw [hf1]; exact hne, by rw [hf1]; exact Nat.le_refl _⟩
    · obtain ⟨a1, a2, a3, a4, a5⟩ := WayB.ix w _ hW i hi
      exact ⟨a1, a2, a3, a4, by omega⟩
theorem WayB.nodup : ∀ (w : List Int) (a : Int), WayB step may l sv s rk a w → (w.map fun i => (rd_T58 l i).f1).Nodup
  | [], a, h => List.nodup_nil
  | x :: w, a, h => by
    obtain ⟨j, hj, rfl, hne, hf1, hmay, _, hok, hg, hr, hW⟩ := h
    rw [List.map_cons, List.nodup_cons]
    refine ⟨fun hmem => ?_, WayB.nodup w _ hW⟩
    obtain ⟨y, hy, e⟩ := List.mem_map.1 hmem
    have := (WayB.ix w _ hW y hy).2.2.2.2
    rw [e, rdT' l j hj, hf1] at this
    omega
end
end Go.Proofs.Ytfhmepdbbhcncaa.P

namespace Go.Proofs.Ytfhmepdbbhcncaa.P
open Go.RowKit Go.Proofs.YtfhmepdbbhcncaaW.PrintWords Go.Proofs.YtfhmepdbbhcncaaW.PrintLast Go.Proofs.YtfhmepdbbhcncaaW.PrintMore
set_option linter.unusedVariables false
set_option linter.unusedSimpArgs false

end Go.Proofs.Ytfhmepdbbhcncaa.P

namespace Go.Proofs.Ytfhmepdbbhcncaa.P
open Go.RowKit Go.Shelf Go.Proofs.YtfhmepdbbhcncaaW.PrintWords

/-! The chapter's example: what is told of it. -/
def yl : List S58 := [⟨0, 1, ⟨10, 12⟩⟩, ⟨1, 3, ⟨8, 9⟩⟩, ⟨1, 4, ⟨11, 20⟩⟩, ⟨1, 2, ⟨15, 18⟩⟩, ⟨2, 5, ⟨16, 30⟩⟩]
set_option maxRecDepth 100000 in
theorem yl_open : openE 6 yl 0 5 [] = 0 := by decide +kernel
set_option maxRecDepth 100000 in
theorem yl_arr : arrL 6 yl 0 5 = [5, 10, 15, 1048576, 11, 16] := by decide +kernel
set_option maxRecDepth 100000 in
theorem yl_car : carL 6 yl 0 5 = [0, 2, 3, 4] := by decide +kernel
set_option maxRecDepth 100000 in
theorem yl_sure : sureL 6 yl 0 5 = [0, 1, 2] := by decide +kernel
set_option maxRecDepth 100000 in
theorem yl_trail5 : trailF 6 yl 0 5 5 = some ([0, 3, 4], 0) := by decide +kernel
set_option maxRecDepth 100000 in
theorem yl_trail3 : trailF 6 yl 0 5 3 = some ([], 5) := by decide +kernel
set_option maxRecDepth 100000 in
theorem yl_check : checkTrailF 6 yl 0 5 4 [0, 2] true = 16 := by decide +kernel
set_option maxRecDepth 100000 in
theorem yl_given : checkArrF 6 yl 0 5 [5, 10, 15, 1048576, 11, 16] = 0 := by decide +kernel
set_option maxRecDepth 100000 in
theorem yl_pass0 : wayL yl 0 1000 (runC soonF (fun _ => true) 6 yl 0 5).2 5 [] = some [4, 3, 0] ∧ passT 6 yl 0 5 5 [0, 3, 4] 3 = [0, 1, 2, 5] ∧ openE 6 yl 0 5 [5] = 0 ∧ ¬ (runC soonF (fun _ => true) 6 yl 0 5).1.getD (Int.toNat 5) 0 = 1048576 := by decide +kernel
theorem yl_passed : passedF 6 yl 0 5 5 = some ([0, 1, 2, 5], 0) := by
  obtain ⟨h1, h2, h3, h4⟩ := yl_pass0
  unfold passedF
  rw [if_neg (by rw [h3]; simp), if_neg h4, h1]
  show some ((passT 6 yl 0 5 5 [0, 3, 4] 3).mergeSort (fun x y => decide (x ≤ y)), (0 : Int)) = _
  rw [h2, List.mergeSort_of_pairwise (by simp)]
set_option maxRecDepth 100000 in
theorem yl_causes : causesF 6 yl [2, 4] = some ([⟨0, 12⟩, ⟨1, 18⟩], 0) := by rfl
end Go.Proofs.Ytfhmepdbbhcncaa.P

namespace Go.Proofs.Ytfhmepdbbhcncaa.P
open Go.RowKit Go.Shelf Go.Proofs.YtfhmepdbbhcncaaW.PrintWords Go.Proofs.YtfhmepdbbhcncaaW.PrintLast Go.Proofs.YtfhmepdbbhcncaaW.PrintMore Go.Proofs.YtfhmepdbbhcncaaM Go.Proofs.YtfhmepdbbhcncaaR
set_option linter.unusedVariables false
set_option linter.unusedSimpArgs false
set_option maxRecDepth 100000

/-- Between the calls of Works. -/
structure YS (w W : World) (b : Nat) (A : Option Addr) (c : Nat) : Prop where
  y : Blk W b 24 #[.int .i64 6, .slice A yl.length c]
  s : Blk W (b + 1) 26 #[.int .i64 0, .int .i64 5]
  C : Kd.C k58 W A yl.length yl
  hc : yl.length ≤ c
  g : Below w.heap.size w W
theorem YS.below {w W W' : World} {b : Nat} {A : Option Addr} {c : Nat} (h : YS w W b A c) (hb : Below W.heap.size W W') : YS w W' b A c :=
  ⟨h.y.below hb h.y.lt, h.s.below hb h.s.lt, Kd.C_below h.C hb, h.hc, below_then h.g h.g.size hb⟩
theorem row_lit (w : World) (xs : List Int) (t : TypeId) (cs : Array Value) (hcs : cs = (xs.map (Value.int .i64)).toArray) (hn : xs.length ≤ 1000) : RowC (w.alloc (.cells cs t)) w.heap.size t xs.length xs := by
  subst hcs
  refine ⟨⟨_, Blk.new w _ t, by simp, fun j hj => by simp [hj]⟩, Nat.le_refl _, ?_⟩
  have : maxLen = 9223372036854775807 := rfl
  omega
theorem alloc_step {W W' : World} {o : Obj} (hb : Below (W.alloc o).heap.size (W.alloc o) W') : Below W.heap.size W W' := (below_alloc (Below.refl W.heap.size W) o).trans (hb.mono (by simp))
theorem drawn_below {W W' : World} (h : Drawn0 W W') : Below W.heap.size W W' := by
  obtain ⟨n, rfl⟩ := h.out
  exact below_dN (Below.refl _ _) n
theorem yard_f : forecourtlaw05_Yard.f = some (6, yl) := rfl
theorem from_f (a b : Int) : forecourtlaw05_From.f a b = some (a, b) := rfl

/-- A slice that is read. -/
structure Rd {α : Type} (d : Kd α) (W : World) (A : Option Addr) (n c : Nat) (l : List α) : Prop where
  hn : n = l.length
  hc : n ≤ c
  C : d.C W A l.length l
theorem Rd.of {α : Type} {d : Kd α} {e : TypeId} {w : World} {b : Nat} {ok : Nat → Prop} {A : Option Addr} {n c : Nat} {xs : List α} (h : d.R e w b ok (.slice A n c) xs) : Rd d w A n c xs :=
  ⟨(Kd.R_reads' h).1, (Kd.R_reads' h).2.1, (Kd.R_reads' h).2.2⟩
theorem Rd.below {α : Type} {d : Kd α} {w W : World} {A : Option Addr} {n c : Nat} {xs : List α} (h : Rd d w A n c xs) (hb : Below w.heap.size w W) : Rd d W A n c xs := ⟨h.hn, h.hc, Kd.C_below h.C hb⟩
theorem longs_at (n : Nat) (W : World) (A : Option Addr) (c : Nat) (l : List Int) (cs : Array Value) (ho : Rd (Kd.int .i64) W A n c l) (hcs : cs = (l.map (Value.int .i64)).toArray) (hf : forecourtlaw05_longs.f 100 l l = some true) (hn : l.length ≤ 1000) :
    Calls Try.prog 28 #[.slice A n c, .slice (some ⟨W.heap.size, 0, none⟩) n n] (W.alloc (.cells cs 2)) fun e w' => e = .returned (.bool true) ∧ Below W.heap.size W w' := by
  obtain ⟨rfl, hc, hC⟩ := ho
  refine (forecourtlaw05_longs.calls 100 A c l (some ⟨W.heap.size, 0, none⟩) l.length l true _ (Kd.C_below hC (below_alloc (Below.refl _ _) _)) hc (row_lit W l 2 _ hcs hn).reads (Nat.le_refl _) hf).mono ?_
  rintro e w1 ⟨rfl, hd⟩
  exact ⟨rfl, alloc_step (drawn_below hd)⟩
theorem ints_at (n : Nat) (W : World) (A : Option Addr) (c : Nat) (l : List Int) (cs : Array Value) (ho : Rd (Kd.int .i64) W A n c l) (hcs : cs = (l.map (Value.int .i64)).toArray) (hf : forecourtlaw05_ints.f 100 l l = some true) (hn : l.length ≤ 1000) :
    Calls Try.prog 29 #[.slice A n c, .slice (some ⟨W.heap.size, 0, none⟩) n n] (W.alloc (.cells cs 3)) fun e w' => e = .returned (.bool true) ∧ Below W.heap.size W w' := by
  obtain ⟨rfl, hc, hC⟩ := ho
  refine (forecourtlaw05_ints.calls 100 A c l (some ⟨W.heap.size, 0, none⟩) l.length l true _ (Kd.C_below hC (below_alloc (Below.refl _ _) _)) hc (row_lit W l 3 _ hcs hn).reads (Nat.le_refl _) hf).mono ?_
  rintro e w1 ⟨rfl, hd⟩
  exact ⟨rfl, alloc_step (drawn_below hd)⟩
theorem row_starts (W : World) (a b x y : Int) : Kd.C k26 (W.alloc (.cells #[.int .i64 a, .int .i64 b, .int .i64 x, .int .i64 y] 26)) (some ⟨W.heap.size, 0, none⟩) 2 [⟨a, b⟩, ⟨x, y⟩] := by
  have B := Blk.new W #[.int .i64 a, .int .i64 b, .int .i64 x, .int .i64 y] 26
  have c0 : (W.alloc (.cells #[.int .i64 a, .int .i64 b, .int .i64 x, .int .i64 y] 26)).cell? ⟨W.heap.size, 0, none⟩ = some (.int .i64 a) := B.cell 0
  have c1 : (W.alloc (.cells #[.int .i64 a, .int .i64 b, .int .i64 x, .int .i64 y] 26)).cell? ⟨W.heap.size, 1, none⟩ = some (.int .i64 b) := B.cell 1
  have c2 : (W.alloc (.cells #[.int .i64 a, .int .i64 b, .int .i64 x, .int .i64 y] 26)).cell? ⟨W.heap.size, 2, none⟩ = some (.int .i64 x) := B.cell 2
  have c3 : (W.alloc (.cells #[.int .i64 a, .int .i64 b, .int .i64 x, .int .i64 y] 26)).cell? ⟨W.heap.size, 3, none⟩ = some (.int .i64 y) := B.cell 3
  refine ⟨rfl, by decide, fun _ => ⟨_, rfl, fun j p hj => ?_⟩⟩
  match j with
  | 0 =>
    simp only [List.getElem?_cons_zero, Option.some.injEq] at hj
    subst hj
    refine ⟨_, rfl, k26_mk _ _, fun i u hu => ?_⟩
    match i with
    | 0 => simp at hu; subst hu; exact c0
    | 1 => simp at hu; subst hu; exact c1
    | i + 2 => simp at hu
  | 1 =>
    simp only [List.getElem?_cons_succ, List.getElem?_cons_zero, Option.some.injEq] at hj
    subst hj
    refine ⟨_, rfl, k26_mk _ _, fun i u hu => ?_⟩
    match i with
    | 0 => simp at hu; subst hu; exact c2
    | 1 => simp at hu; subst hu; exact c3
    | i + 2 => simp at hu
  | j + 2 => simp at hj
theorem starts_at (W : World) (A : Option Addr) (c : Nat) (a b x y : Int) (ho : Rd k26 W A 2 c [⟨a, b⟩, ⟨x, y⟩]) (hf : forecourtlaw05_starts.f 100 [⟨a, b⟩, ⟨x, y⟩] [⟨a, b⟩, ⟨x, y⟩] = some true) :
    Calls Try.prog 36 #[.slice A 2 c, .slice (some ⟨W.heap.size, 0, none⟩) 2 2] (W.alloc (.cells #[.int .i64 a, .int .i64 b, .int .i64 x, .int .i64 y] 26)) fun e w' => e = .returned (.bool true) ∧ Below W.heap.size W w' := by
  obtain ⟨_, hc, hC⟩ := ho
  refine (forecourtlaw05_starts.calls 100 A c [⟨a, b⟩, ⟨x, y⟩] (some ⟨W.heap.size, 0, none⟩) 2 [⟨a, b⟩, ⟨x, y⟩] true _ (Kd.C_below hC (below_alloc (Below.refl _ _) _)) hc (row_starts W a b x y) (Nat.le_refl _) hf).mono ?_
  rintro e w1 ⟨rfl, hd⟩
  exact ⟨rfl, alloc_step (drawn_below hd)⟩

set_option maxHeartbeats 4000000 in
set_option maxRecDepth 100000 in
theorem works_calls (w : World) : Calls Try.prog 15 #[] w fun e w' => e = .returned (.bool true) ∧ Below w.heap.size w w' := by
  go_enter Try.func15, Try.ntmps15
  go_upto_region 2 with (first
    | (go_at_call 47; refine (forecourtlaw05_Yard.calls 6 yl _ yard_f).mono ?_; rintro e w1 ⟨v1, rfl, ho, hb1⟩; obtain ⟨A, c, hv⟩ := Kd.R_slice ho; subst hv; have HO := Lib.hid ho; have HB1 := Lib.hid hb1; clear ho hb1)
    | (go_at_call 44; refine (forecourtlaw05_From.calls 0 5 0 5 _ (from_f 0 5)).mono ?_; rintro e w2 ⟨rfl, hb2⟩; have HB2 := Lib.hid hb2; clear hb2))
  have HYS := Lib.hid (show YS w ((w2.alloc (.cells #[.int .i64 6, .slice A yl.length c] 24)).alloc (.cells #[.int .i64 0, .int .i64 5] 26)) w2.heap.size A c from by
    have hr := Kd.R_reads' HO.out
    have b0 := (Blk.new w2 #[.int .i64 6, .slice A yl.length c] 24).alloc (.cells #[.int .i64 0, .int .i64 5] 26)
    have b1 := Blk.new (w2.alloc (.cells #[.int .i64 6, .slice A yl.length c] 24)) #[.int .i64 0, .int .i64 5] 26
    simp only [World.size_alloc] at b1
    have hw2 := below_then HB1.out HB1.out.size HB2.out
    exact ⟨b0, b1, Kd.C_below (Kd.C_below hr.2.2 HB2.out) (boxes2 _ _ _), hr.2.1, below_then hw2 hw2.size (boxes2 _ _ _)⟩)
  clear HO HB1 HB2
  generalize w2.heap.size = b at *
  generalize ((w2.alloc (.cells #[.int .i64 6, .slice A yl.length c] 24)).alloc (.cells #[.int .i64 0, .int .i64 5] 26)) = W0 at *
  have c0 : W0.cell? ⟨b, 0, none⟩ = some (.int .i64 6) := HYS.out.y.cell 0
  have c1 : W0.cell? ⟨b, 1, none⟩ = some (.slice A yl.length c) := HYS.out.y.cell 1
  have s0 : W0.cell? ⟨b + 1, 0, none⟩ = some (.int .i64 0) := HYS.out.s.cell 0
  have s1 : W0.cell? ⟨b + 1, 1, none⟩ = some (.int .i64 5) := HYS.out.s.cell 1
  go_upto_region 3 with (go_at_call 22; refine (taint_Arrivals.calls 6 A c yl 0 5 [5, 10, 15, 1048576, 11, 16] 0 _ HYS.out.C HYS.out.hc (by rw [taint_Arrivals.f, yl_arr, yl_open])).mono ?_; rintro e W1 ⟨va, rfl, ho, hb⟩; obtain ⟨Aa, ca, hv⟩ := Kd.R_slice ho; subst hv; have HOa := Lib.hid ho; have HB := Lib.hid hb; clear ho hb)
  replace HYS := Lib.hid (HYS.out.below HB.out)
  clear c0 c1 s0 s1 HB
  have c0 : W1.cell? ⟨b, 0, none⟩ = some (.int .i64 6) := HYS.out.y.cell 0
  have c1 : W1.cell? ⟨b, 1, none⟩ = some (.slice A yl.length c) := HYS.out.y.cell 1
  have s0 : W1.cell? ⟨b + 1, 0, none⟩ = some (.int .i64 0) := HYS.out.s.cell 0
  have s1 : W1.cell? ⟨b + 1, 1, none⟩ = some (.int .i64 5) := HYS.out.s.cell 1
  go_upto_region 4 with (go_at_call 24; refine (taint_Carried.calls 6 A c yl 0 5 [0, 2, 3, 4] 0 _ HYS.out.C HYS.out.hc (by rw [taint_Carried.f, yl_car, yl_open])).mono ?_; rintro e W2 ⟨vc2, rfl, ho, hb⟩; obtain ⟨Ac2, cc2, hv⟩ := Kd.R_slice ho; subst hv; have HOc2 := Lib.hid ho; have HB := Lib.hid hb; clear ho hb)
  have HOa := Lib.hid (Kd.R_below HOa.out HB.out)
  replace HYS := Lib.hid (HYS.out.below HB.out)
  clear c0 c1 s0 s1 HB
  have c0 : W2.cell? ⟨b, 0, none⟩ = some (.int .i64 6) := HYS.out.y.cell 0
  have c1 : W2.cell? ⟨b, 1, none⟩ = some (.slice A yl.length c) := HYS.out.y.cell 1
  have s0 : W2.cell? ⟨b + 1, 0, none⟩ = some (.int .i64 0) := HYS.out.s.cell 0
  have s1 : W2.cell? ⟨b + 1, 1, none⟩ = some (.int .i64 5) := HYS.out.s.cell 1
  go_upto_region 5 with (go_at_call 26; refine (taint_Sure.calls 6 A c yl 0 5 [0, 1, 2] 0 _ HYS.out.C HYS.out.hc (by rw [taint_Sure.f, yl_sure, yl_open])).mono ?_; rintro e W3 ⟨vu, rfl, ho, hb⟩; obtain ⟨Au, cu, hv⟩ := Kd.R_slice ho; subst hv; have HOu := Lib.hid ho; have HB := Lib.hid hb; clear ho hb)
  have HOa := Lib.hid (Kd.R_below HOa.out HB.out)
  have HOc2 := Lib.hid (Kd.R_below HOc2.out HB.out)
  replace HYS := Lib.hid (HYS.out.below HB.out)
  clear c0 c1 s0 s1 HB
  have c0 : W3.cell? ⟨b, 0, none⟩ = some (.int .i64 6) := HYS.out.y.cell 0
  have c1 : W3.cell? ⟨b, 1, none⟩ = some (.slice A yl.length c) := HYS.out.y.cell 1
  have s0 : W3.cell? ⟨b + 1, 0, none⟩ = some (.int .i64 0) := HYS.out.s.cell 0
  have s1 : W3.cell? ⟨b + 1, 1, none⟩ = some (.int .i64 5) := HYS.out.s.cell 1
  go_upto_region 6 with (go_at_call 32; refine (taint_Trail.calls 6 A c yl 0 5 5 [0, 3, 4] 0 _ HYS.out.C HYS.out.hc yl_trail5).mono ?_; rintro e W4 ⟨vt, rfl, ho, hb⟩; obtain ⟨At, ct, hv⟩ := Kd.R_slice ho; subst hv; have HOt := Lib.hid ho; have HB := Lib.hid hb; clear ho hb)
  have HOa := Lib.hid (Kd.R_below HOa.out HB.out)
  have HOc2 := Lib.hid (Kd.R_below HOc2.out HB.out)
  have HOu := Lib.hid (Kd.R_below HOu.out HB.out)
  replace HYS := Lib.hid (HYS.out.below HB.out)
  clear c0 c1 s0 s1 HB
  have c0 : W4.cell? ⟨b, 0, none⟩ = some (.int .i64 6) := HYS.out.y.cell 0
  have c1 : W4.cell? ⟨b, 1, none⟩ = some (.slice A yl.length c) := HYS.out.y.cell 1
  have s0 : W4.cell? ⟨b + 1, 0, none⟩ = some (.int .i64 0) := HYS.out.s.cell 0
  have s1 : W4.cell? ⟨b + 1, 1, none⟩ = some (.int .i64 5) := HYS.out.s.cell 1
  go_upto_region 7 with (go_at_call 32; refine (taint_Trail.calls 6 A c yl 0 5 3 [] 5 _ HYS.out.C HYS.out.hc yl_trail3).mono ?_; rintro e W5 ⟨vn, rfl, ho, hb⟩; obtain ⟨An, cn, hv⟩ := Kd.R_slice ho; subst hv; have HOn := Lib.hid ho; have HB := Lib.hid hb; clear ho hb)
  have HOa := Lib.hid (Kd.R_below HOa.out HB.out)
  have HOc2 := Lib.hid (Kd.R_below HOc2.out HB.out)
  have HOu := Lib.hid (Kd.R_below HOu.out HB.out)
  have HOt := Lib.hid (Kd.R_below HOt.out HB.out)
  replace HYS := Lib.hid (HYS.out.below HB.out)
  clear c0 c1 s0 s1 HB
  have c0 : W5.cell? ⟨b, 0, none⟩ = some (.int .i64 6) := HYS.out.y.cell 0
  have c1 : W5.cell? ⟨b, 1, none⟩ = some (.slice A yl.length c) := HYS.out.y.cell 1
  have s0 : W5.cell? ⟨b + 1, 0, none⟩ = some (.int .i64 0) := HYS.out.s.cell 0
  have s1 : W5.cell? ⟨b + 1, 1, none⟩ = some (.int .i64 5) := HYS.out.s.cell 1
  go_upto_region 8 with (go_at_call 18; refine (taint_CheckTrail.calls 6 A c yl 0 5 4 (some ⟨W5.heap.size, 0, none⟩) 2 [0, 2] true 16 _ (Kd.C_below HYS.out.C (below_alloc (Below.refl _ _) _)) HYS.out.hc (row_lit W5 [0, 2] 3 _ rfl (by decide)).reads (by decide) (by rw [taint_CheckTrail.f, yl_check])).mono ?_; rintro e W6 ⟨rfl, hb⟩; have HB := Lib.hid (alloc_step hb); clear hb)
  have HOa := Lib.hid (Kd.R_below HOa.out HB.out)
  have HOc2 := Lib.hid (Kd.R_below HOc2.out HB.out)
  have HOu := Lib.hid (Kd.R_below HOu.out HB.out)
  have HOt := Lib.hid (Kd.R_below HOt.out HB.out)
  have HOn := Lib.hid (Kd.R_below HOn.out HB.out)
  replace HYS := Lib.hid (HYS.out.below HB.out)
  clear c0 c1 s0 s1 HB
  have c0 : W6.cell? ⟨b, 0, none⟩ = some (.int .i64 6) := HYS.out.y.cell 0
  have c1 : W6.cell? ⟨b, 1, none⟩ = some (.slice A yl.length c) := HYS.out.y.cell 1
  have s0 : W6.cell? ⟨b + 1, 0, none⟩ = some (.int .i64 0) := HYS.out.s.cell 0
  have s1 : W6.cell? ⟨b + 1, 1, none⟩ = some (.int .i64 5) := HYS.out.s.cell 1
  go_upto_region 9 with (go_at_call 30; refine (taint_Passed.calls 6 A c yl 0 5 5 [0, 1, 2, 5] 0 _ HYS.out.C HYS.out.hc yl_passed).mono ?_; rintro e W7 ⟨vp, rfl, ho, hb⟩; obtain ⟨Ap, cp, hv⟩ := Kd.R_slice ho; subst hv; have HOp := Lib.hid ho; have HB := Lib.hid hb; clear ho hb)
  have HOa := Lib.hid (Kd.R_below HOa.out HB.out)
  have HOc2 := Lib.hid (Kd.R_below HOc2.out HB.out)
  have HOu := Lib.hid (Kd.R_below HOu.out HB.out)
  have HOt := Lib.hid (Kd.R_below HOt.out HB.out)
  have HOn := Lib.hid (Kd.R_below HOn.out HB.out)
  replace HYS := Lib.hid (HYS.out.below HB.out)
  clear c0 c1 s0 s1 HB
  have c0 : W7.cell? ⟨b, 0, none⟩ = some (.int .i64 6) := HYS.out.y.cell 0
  have c1 : W7.cell? ⟨b, 1, none⟩ = some (.slice A yl.length c) := HYS.out.y.cell 1
  have s0 : W7.cell? ⟨b + 1, 0, none⟩ = some (.int .i64 0) := HYS.out.s.cell 0
  have s1 : W7.cell? ⟨b + 1, 1, none⟩ = some (.int .i64 5) := HYS.out.s.cell 1
  go_upto_region 10 with (go_at_call 34; refine (taint_Causes.calls 6 A c yl (some ⟨W7.heap.size, 0, none⟩) 2 [2, 4] [⟨0, 12⟩, ⟨1, 18⟩] 0 _ (Kd.C_below HYS.out.C (below_alloc (Below.refl _ _) _)) HYS.out.hc (row_lit W7 [2, 4] 3 _ rfl (by decide)).reads (by decide) yl_causes).mono ?_; rintro e W8 ⟨vk, rfl, ho, hb⟩; obtain ⟨Ak, ck, hv⟩ := Kd.R_slice ho; subst hv; have HOk := Lib.hid (Kd.R_lower ho (by simp : W7.heap.size ≤ _)); have HB := Lib.hid (alloc_step hb); clear ho hb)
  have HOa := Lib.hid (Kd.R_below HOa.out HB.out)
  have HOc2 := Lib.hid (Kd.R_below HOc2.out HB.out)
  have HOu := Lib.hid (Kd.R_below HOu.out HB.out)
  have HOt := Lib.hid (Kd.R_below HOt.out HB.out)
  have HOn := Lib.hid (Kd.R_below HOn.out HB.out)
  have HOp := Lib.hid (Kd.R_below HOp.out HB.out)
  replace HYS := Lib.hid (HYS.out.below HB.out)
  clear c0 c1 s0 s1 HB
  have c0 : W8.cell? ⟨b, 0, none⟩ = some (.int .i64 6) := HYS.out.y.cell 0
  have c1 : W8.cell? ⟨b, 1, none⟩ = some (.slice A yl.length c) := HYS.out.y.cell 1
  have s0 : W8.cell? ⟨b + 1, 0, none⟩ = some (.int .i64 0) := HYS.out.s.cell 0
  have s1 : W8.cell? ⟨b + 1, 1, none⟩ = some (.int .i64 5) := HYS.out.s.cell 1
  go_upto_region 11 with (go_at_call 20; refine (taint_CheckArrivals.calls 6 A c yl 0 5 Aa ca [5, 10, 15, 1048576, 11, 16] 0 _ HYS.out.C HYS.out.hc (Kd.R_reads' HOa.out).2.2 (Kd.R_reads' HOa.out).2.1 (by rw [taint_CheckArrivals.f, yl_given])).mono ?_; rintro e W9 ⟨rfl, hb⟩; have HB := Lib.hid hb; clear hb)
  have HOa := Lib.hid (Kd.R_below HOa.out HB.out)
  have HOc2 := Lib.hid (Kd.R_below HOc2.out HB.out)
  have HOu := Lib.hid (Kd.R_below HOu.out HB.out)
  have HOt := Lib.hid (Kd.R_below HOt.out HB.out)
  have HOn := Lib.hid (Kd.R_below HOn.out HB.out)
  have HOp := Lib.hid (Kd.R_below HOp.out HB.out)
  have HOk := Lib.hid (Kd.R_below HOk.out HB.out)
  replace HYS := Lib.hid (HYS.out.below HB.out)
  clear c0 c1 s0 s1 HB
  have HG := Lib.hid HYS.out.g
  clear HYS
  replace HOa := Lib.hid (Rd.of HOa.out)
  replace HOc2 := Lib.hid (Rd.of HOc2.out)
  replace HOu := Lib.hid (Rd.of HOu.out)
  replace HOt := Lib.hid (Rd.of HOt.out)
  replace HOn := Lib.hid (Rd.of HOn.out)
  replace HOp := Lib.hid (Rd.of HOp.out)
  replace HOk := Lib.hid (Rd.of HOk.out)
  go_wp2_with (first
    | (go_at_call 28; refine (longs_at 6 W9 Aa ca [5, 10, 15, 1048576, 11, 16] _ HOa.out rfl (by decide +kernel) (by decide)).mono ?_; rintro e W10 ⟨rfl, hb⟩; have HB := Lib.hid hb; clear hb HOa; replace HOc2 := Lib.hid (HOc2.out.below HB.out); replace HOu := Lib.hid (HOu.out.below HB.out); replace HOt := Lib.hid (HOt.out.below HB.out); replace HOn := Lib.hid (HOn.out.below HB.out); replace HOp := Lib.hid (HOp.out.below HB.out); replace HOk := Lib.hid (HOk.out.below HB.out); replace HG := Lib.hid (below_then HG.out HG.out.size HB.out); clear HB)
    | (go_at_call 29; refine (ints_at 4 W10 Ac2 cc2 [0, 2, 3, 4] _ HOc2.out rfl (by decide +kernel) (by decide)).mono ?_; rintro e W11 ⟨rfl, hb⟩; have HB := Lib.hid hb; clear hb HOc2; replace HOu := Lib.hid (HOu.out.below HB.out); replace HOt := Lib.hid (HOt.out.below HB.out); replace HOn := Lib.hid (HOn.out.below HB.out); replace HOp := Lib.hid (HOp.out.below HB.out); replace HOk := Lib.hid (HOk.out.below HB.out); replace HG := Lib.hid (below_then HG.out HG.out.size HB.out); clear HB)
    | (go_at_call 29; refine (ints_at 3 W11 Au cu [0, 1, 2] _ HOu.out rfl (by decide +kernel) (by decide)).mono ?_; rintro e W12 ⟨rfl, hb⟩; have HB := Lib.hid hb; clear hb HOu; replace HOt := Lib.hid (HOt.out.below HB.out); replace HOn := Lib.hid (HOn.out.below HB.out); replace HOp := Lib.hid (HOp.out.below HB.out); replace HOk := Lib.hid (HOk.out.below HB.out); replace HG := Lib.hid (below_then HG.out HG.out.size HB.out); clear HB)
    | (go_at_call 29; refine (ints_at 3 W12 At ct [0, 3, 4] _ HOt.out rfl (by decide +kernel) (by decide)).mono ?_; rintro e W13 ⟨rfl, hb⟩; have HB := Lib.hid hb; clear hb HOt; replace HOn := Lib.hid (HOn.out.below HB.out); replace HOp := Lib.hid (HOp.out.below HB.out); replace HOk := Lib.hid (HOk.out.below HB.out); replace HG := Lib.hid (below_then HG.out HG.out.size HB.out); clear HB)
    | (go_at_call 29; refine (ints_at 4 W13 Ap cp [0, 1, 2, 5] _ HOp.out rfl (by decide +kernel) (by decide)).mono ?_; rintro e W14 ⟨rfl, hb⟩; have HB := Lib.hid hb; clear hb HOp; replace HOn := Lib.hid (HOn.out.below HB.out); replace HOk := Lib.hid (HOk.out.below HB.out); replace HG := Lib.hid (below_then HG.out HG.out.size HB.out); clear HB)
    | (go_at_call 44; refine (forecourtlaw05_From.calls 0 12 0 12 _ (from_f 0 12)).mono ?_; rintro e W15 ⟨rfl, hb⟩; have HB := Lib.hid hb; clear hb; replace HOk := Lib.hid (HOk.out.below HB.out); replace HG := Lib.hid (below_then HG.out HG.out.size HB.out); clear HB)
    | (go_at_call 44; refine (forecourtlaw05_From.calls 1 18 1 18 _ (from_f 1 18)).mono ?_; rintro e W16 ⟨rfl, hb⟩; have HB := Lib.hid hb; clear hb; replace HOk := Lib.hid (HOk.out.below HB.out); replace HG := Lib.hid (below_then HG.out HG.out.size HB.out); clear HB)
    | (go_at_call 36; refine (starts_at W16 Ak ck 0 12 1 18 HOk.out (by decide +kernel)).mono ?_; rintro e W17 ⟨rfl, hb⟩; have HB := Lib.hid hb; clear hb HOk; replace HG := Lib.hid (below_then HG.out HG.out.size HB.out); clear HB))
  go_ret
  exact ⟨rfl, HG.out⟩
/-- Works says yes. -/
def forecourtlaw05_Works.f : Option Bool := some true
end Go.Proofs.Ytfhmepdbbhcncaa.P

namespace Go.Proofs.Ytfhmepdbbhcncaa.P
open Go.RowKit Go.Proofs.YtfhmepdbbhcncaaW.PrintWords Go.Proofs.YtfhmepdbbhcncaaW.PrintLast
set_option linter.unusedVariables false
set_option linter.unusedSimpArgs false

/-! ### forecourtlaw05_fine: function 37 -/
def forecourtlaw05_fine.f (k : Nat) (a0_0 : Int) (l0_1 : List (S58)) (a1_0 : Int) (a1_1 : Int) : Option (Bool) := (forecourtlaw05_great.f a0_0 l0_1).bind fun t469 => (if t469 = true then (some false) else ((forecourtref05_IsStart.f k a0_0 l0_1 a1_0 a1_1).bind fun t470 => (some (t470 == 0))))
set_option maxHeartbeats 8000000 in
set_option maxRecDepth 100000 in
theorem forecourtlaw05_fine.calls (k : Nat) (a0_0 : Int) (A0_1 : Option Addr) (c0_1 : Nat) (l0_1 : List (S58)) (a1_0 : Int) (a1_1 : Int) (r : Bool) (w : World) (hr0_1 : Kd.C k58 w A0_1 l0_1.length l0_1) (hc0_1 : l0_1.length ≤ c0_1) (h : forecourtlaw05_fine.f k a0_0 l0_1 a1_0 a1_1 = some r) :
    Calls Try.prog 37 #[.agg #[.int .i64 a0_0, .slice A0_1 l0_1.length c0_1], .agg #[.int .i64 a1_0, .int .i64 a1_1]] w fun e w' => e = .returned (.bool r) ∧ Below w.heap.size w w' := by
  have hu24 := Try.underlying24
  have hu26 := Try.underlying26
  have HR0_1 := Aside0.mk hr0_1
  have HC0_1 := Aside0.mk hc0_1
  clear hr0_1 hc0_1
  have HB := Aside0.mk (Below.refl w.heap.size w)
  have H : ((forecourtlaw05_great.f a0_0 l0_1).bind fun t469 => (if t469 = true then (some false) else ((forecourtref05_IsStart.f k a0_0 l0_1 a1_0 a1_1).bind fun t470 => (some (t470 == 0))))) = some r := h
  clear h
  replace H := Option.bind_eq_some_iff.mp H
  obtain ⟨t469, A30, H⟩ := H
  replace H : (if t469 = true then (some false) else ((forecourtref05_IsStart.f k a0_0 l0_1 a1_0 a1_1).bind fun t470 => (some (t470 == 0)))) = some r := H
  have A3 := Aside0.mk A30
  clear A30
  by_cases c4 : t469 = true
  · subst c4
    have H1 : (some false) = some r := by rw [if_pos rfl] at H; exact H
    clear H
    have H := H1
    clear H1
    obtain rfl := Option.some.inj H
    go_enter Try.func37, Try.ntmps37
    go_wp2_with (first | ((with_reducible refine gate_dst (N := 2) rfl ?_); refine box_event ?hg (N := 2) ?hd (cs := #[.int .i64 a0_0, .slice A0_1 l0_1.length c0_1]) (t := 24) ?hr ?_; (case hd => rfl); (case hg => rfl); (case hr => first | (go_simp; done) | (go_simp; rfl)); intro gb467 hg w5 hbox hb; have n0_ := Aside0.mk (below_step (by repeat (first | (with_reducible first | exact HB.out | apply below_alloc | apply pw_below_drewN | apply below_drew1) | exact HB.out)) hb); have n1_ := Aside0.mk (hbox); have n2_ := Aside0.mk ((by rw [hg]; exact (below_size (by repeat (first | (with_reducible first | exact HB.out | apply below_alloc | apply pw_below_drewN | apply below_drew1) | exact HB.out))) : w.heap.size ≤ gb467)); have n3_ := Aside0.mk ((by rw [hg]; exact (below_size (by repeat (first | (with_reducible first | exact HB.out | apply below_alloc | apply pw_below_drewN | apply below_drew1) | exact HB.out))) : w.heap.size ≤ gb467)); clear HB; have HB := n0_; have BK467 := n1_; have GW467 := n2_; have GE467 := n3_; clear n0_ n1_ n2_ n3_; clear hb hbox hg) | ((with_reducible refine gate_dst (N := 3) rfl ?_); refine box_event ?hg (N := 3) ?hd (cs := #[.int .i64 a1_0, .int .i64 a1_1]) (t := 26) ?hr ?_; (case hd => rfl); (case hg => rfl); (case hr => first | (go_simp; done) | (go_simp; rfl)); intro gb468 hg w6 hbox hb; have n0_ := Aside0.mk (blk_below (g := gb467) (o := .cells #[.int .i64 a0_0, .slice A0_1 l0_1.length c0_1] 24 (0, 0)) (by (with_reducible repeat (first | refine blk_drewN ?_ _ | refine blk_drew ?_ | refine blk_alloc ?_ _)); exact BK467.out) hb); have n1_ := Aside0.mk (below_step (by repeat (first | (with_reducible first | exact HB.out | apply below_alloc | apply pw_below_drewN | apply below_drew1 | refine below_set ?_ GE467.out) | exact HB.out)) hb); have n2_ := Aside0.mk (hbox); have n3_ := Aside0.mk ((by rw [hg]; exact (below_size (by repeat (first | (with_reducible first | exact HB.out | apply below_alloc | apply pw_below_drewN | apply below_drew1 | refine below_set ?_ GE467.out) | exact HB.out))) : w.heap.size ≤ gb468)); have n4_ := Aside0.mk ((by rw [hg]; exact (below_size (by repeat (first | (with_reducible first | exact HB.out | apply below_alloc | apply pw_below_drewN | apply below_drew1 | refine below_set ?_ GE467.out) | exact HB.out))) : w.heap.size ≤ gb468)); have n5_ := Aside0.mk ((by rw [hg]; exact Nat.ne_of_lt (blk_lt (g := gb467) (o := .cells #[.int .i64 a0_0, .slice A0_1 l0_1.length c0_1] 24 (0, 0)) (by (with_reducible repeat (first | refine blk_drewN ?_ _ | refine blk_drew ?_ | refine blk_alloc ?_ _)); exact BK467.out)) : gb467 ≠ gb468)); have n6_ := Aside0.mk ((by rw [hg]; exact Nat.ne_of_gt (blk_lt (g := gb467) (o := .cells #[.int .i64 a0_0, .slice A0_1 l0_1.length c0_1] 24 (0, 0)) (by (with_reducible repeat (first | refine blk_drewN ?_ _ | refine blk_drew ?_ | refine blk_alloc ?_ _)); exact BK467.out)) : gb468 ≠ gb467)); clear BK467; clear HB; have BK467 := n0_; have HB := n1_; have BK468 := n2_; have GW468 := n3_; have GE468 := n4_; have NB467_468 := n5_; have NB468_467 := n6_; clear n0_ n1_ n2_ n3_ n4_ n5_ n6_; clear hb hbox hg; have hnb7 := NB467_468.out; have hnc7 := NB468_467.out; have hcz8_0 : w6.cell? ⟨gb467, 0, none⟩ = some (.int .i64 a0_0) := (blk_cell BK467.out 0).trans rfl; have hcz8_1 : w6.cell? ⟨gb467, 1, none⟩ = some (.slice A0_1 l0_1.length c0_1) := (blk_cell BK467.out 1).trans rfl; have hfz8_0 := blk_frozen BK467.out 0; have hfz8_1 := blk_frozen BK467.out 1) | ((with_reducible refine gate_callee (f := 14) rfl ?_); refine goesL_ (some 6) rfl rfl Try.func14 (by kernel_rfl) rfl #[.agg #[.int .i64 a0_0, .slice A0_1 l0_1.length c0_1]] rfl (by (try simp only [List.map_toArray, List.map_cons, List.map_nil]); first | done | rfl | (simp only [List.length_drop, List.length_take]; rfl)) ?_; (with_reducible refine (forecourtlaw05_great.calls a0_0 _ _ l0_1 true _ ?side1 ?side2 A3.out).mono ?_); (case side1 => repeat (first | exact (Kd.C_below HR0_1.out HB.out) | (with_reducible refine Kd.C_alloc ?_ _) | (with_reducible refine Kd.C_drewN ?_ _) | (with_reducible refine Kd.C_drew ?_))); (case side2 => exact HC0_1.out); rintro e w9 ⟨rfl, hb⟩; refine ⟨_, rfl, ?_⟩; have n0_ := Aside0.mk (blk_below (g := gb467) (o := .cells #[.int .i64 a0_0, .slice A0_1 l0_1.length c0_1] 24 (0, 0)) (by (with_reducible repeat (first | refine blk_drewN ?_ _ | refine blk_drew ?_ | refine blk_alloc ?_ _)); exact BK467.out) hb); have n1_ := Aside0.mk (blk_below (g := gb468) (o := .cells #[.int .i64 a1_0, .int .i64 a1_1] 26 (0, 0)) (by (with_reducible repeat (first | refine blk_drewN ?_ _ | refine blk_drew ?_ | refine blk_alloc ?_ _)); exact BK468.out) hb); have n2_ := Aside0.mk (below_step (by repeat (first | (with_reducible first | exact HB.out | apply below_alloc | apply pw_below_drewN | apply below_drew1 | refine below_set ?_ GE467.out | refine below_set ?_ GE468.out) | exact HB.out)) hb); clear BK467; clear BK468; clear HB; have BK467 := n0_; have BK468 := n1_; have HB := n2_; clear n0_ n1_ n2_; (try clear hb); (try clear hb2); (try clear hk); (try clear hi)))
    go_ret
    exact ⟨by first | rfl | (simp [errW_none, errW_some] <;> rfl) | (simp [*, errW_none, errW_some] <;> rfl), by repeat (first | (with_reducible first | exact HB.out | apply below_alloc | apply pw_below_drewN | apply below_drew1 | refine below_set ?_ GE467.out | refine below_set ?_ GE468.out) | exact HB.out)⟩
  · replace c4 := Bool.eq_false_iff.mpr c4
    subst c4
    have H1 : ((forecourtref05_IsStart.f k a0_0 l0_1 a1_0 a1_1).bind fun t470 => (some (t470 == 0))) = some r := by rw [if_neg (show ¬ (false = true) by decide)] at H; exact H
    clear H
    have H := H1
    clear H1
    replace H := Option.bind_eq_some_iff.mp H
    obtain ⟨t470, A100, H⟩ := H
    replace H : (some (t470 == 0)) = some r := H
    have A10 := Aside0.mk A100
    clear A100
    obtain rfl := Option.some.inj H
    go_enter Try.func37, Try.ntmps37
    go_wp2_with (first | ((with_reducible refine gate_dst (N := 2) rfl ?_); refine box_event ?hg (N := 2) ?hd (cs := #[.int .i64 a0_0, .slice A0_1 l0_1.length c0_1]) (t := 24) ?hr ?_; (case hd => rfl); (case hg => rfl); (case hr => first | (go_simp; done) | (go_simp; rfl)); intro gb467 hg w11 hbox hb; have n0_ := Aside0.mk (below_step (by repeat (first | (with_reducible first | exact HB.out | apply below_alloc | apply pw_below_drewN | apply below_drew1) | exact HB.out)) hb); have n1_ := Aside0.mk (hbox); have n2_ := Aside0.mk ((by rw [hg]; exact (below_size (by repeat (first | (with_reducible first | exact HB.out | apply below_alloc | apply pw_below_drewN | apply below_drew1) | exact HB.out))) : w.heap.size ≤ gb467)); have n3_ := Aside0.mk ((by rw [hg]; exact (below_size (by repeat (first | (with_reducible first | exact HB.out | apply below_alloc | apply pw_below_drewN | apply below_drew1) | exact HB.out))) : w.heap.size ≤ gb467)); clear HB; have HB := n0_; have BK467 := n1_; have GW467 := n2_; have GE467 := n3_; clear n0_ n1_ n2_ n3_; clear hb hbox hg) | ((with_reducible refine gate_dst (N := 3) rfl ?_); refine box_event ?hg (N := 3) ?hd (cs := #[.int .i64 a1_0, .int .i64 a1_1]) (t := 26) ?hr ?_; (case hd => rfl); (case hg => rfl); (case hr => first | (go_simp; done) | (go_simp; rfl)); intro gb468 hg w12 hbox hb; have n0_ := Aside0.mk (blk_below (g := gb467) (o := .cells #[.int .i64 a0_0, .slice A0_1 l0_1.length c0_1] 24 (0, 0)) (by (with_reducible repeat (first | refine blk_drewN ?_ _ | refine blk_drew ?_ | refine blk_alloc ?_ _)); exact BK467.out) hb); have n1_ := Aside0.mk (below_step (by repeat (first | (with_reducible first | exact HB.out | apply below_alloc | apply pw_below_drewN | apply below_drew1 | refine below_set ?_ GE467.out) | exact HB.out)) hb); have n2_ := Aside0.mk (hbox); have n3_ := Aside0.mk ((by rw [hg]; exact (below_size (by repeat (first | (with_reducible first | exact HB.out | apply below_alloc | apply pw_below_drewN | apply below_drew1 | refine below_set ?_ GE467.out) | exact HB.out))) : w.heap.size ≤ gb468)); have n4_ := Aside0.mk ((by rw [hg]; exact (below_size (by repeat (first | (with_reducible first | exact HB.out | apply below_alloc | apply pw_below_drewN | apply below_drew1 | refine below_set ?_ GE467.out) | exact HB.out))) : w.heap.size ≤ gb468)); have n5_ := Aside0.mk ((by rw [hg]; exact Nat.ne_of_lt (blk_lt (g := gb467) (o := .cells #[.int .i64 a0_0, .slice A0_1 l0_1.length c0_1] 24 (0, 0)) (by (with_reducible repeat (first | refine blk_drewN ?_ _ | refine blk_drew ?_ | refine blk_alloc ?_ _)); exact BK467.out)) : gb467 ≠ gb468)); have n6_ := Aside0.mk ((by rw [hg]; exact Nat.ne_of_gt (blk_lt (g := gb467) (o := .cells #[.int .i64 a0_0, .slice A0_1 l0_1.length c0_1] 24 (0, 0)) (by (with_reducible repeat (first | refine blk_drewN ?_ _ | refine blk_drew ?_ | refine blk_alloc ?_ _)); exact BK467.out)) : gb468 ≠ gb467)); clear BK467; clear HB; have BK467 := n0_; have HB := n1_; have BK468 := n2_; have GW468 := n3_; have GE468 := n4_; have NB467_468 := n5_; have NB468_467 := n6_; clear n0_ n1_ n2_ n3_ n4_ n5_ n6_; clear hb hbox hg; have hnb13 := NB467_468.out; have hnc13 := NB468_467.out; have hcz14_0 : w12.cell? ⟨gb467, 0, none⟩ = some (.int .i64 a0_0) := (blk_cell BK467.out 0).trans rfl; have hcz14_1 : w12.cell? ⟨gb467, 1, none⟩ = some (.slice A0_1 l0_1.length c0_1) := (blk_cell BK467.out 1).trans rfl; have hfz14_0 := blk_frozen BK467.out 0; have hfz14_1 := blk_frozen BK467.out 1) | ((with_reducible refine gate_callee (f := 14) rfl ?_); refine goesL_ (some 6) rfl rfl Try.func14 (by kernel_rfl) rfl #[.agg #[.int .i64 a0_0, .slice A0_1 l0_1.length c0_1]] rfl (by (try simp only [List.map_toArray, List.map_cons, List.map_nil]); first | done | rfl | (simp only [List.length_drop, List.length_take]; rfl)) ?_; (with_reducible refine (forecourtlaw05_great.calls a0_0 _ _ l0_1 false _ ?side1 ?side2 A3.out).mono ?_); (case side1 => repeat (first | exact (Kd.C_below HR0_1.out HB.out) | (with_reducible refine Kd.C_alloc ?_ _) | (with_reducible refine Kd.C_drewN ?_ _) | (with_reducible refine Kd.C_drew ?_))); (case side2 => exact HC0_1.out); rintro e w15 ⟨rfl, hb⟩; refine ⟨_, rfl, ?_⟩; have n0_ := Aside0.mk (blk_below (g := gb467) (o := .cells #[.int .i64 a0_0, .slice A0_1 l0_1.length c0_1] 24 (0, 0)) (by (with_reducible repeat (first | refine blk_drewN ?_ _ | refine blk_drew ?_ | refine blk_alloc ?_ _)); exact BK467.out) hb); have n1_ := Aside0.mk (blk_below (g := gb468) (o := .cells #[.int .i64 a1_0, .int .i64 a1_1] 26 (0, 0)) (by (with_reducible repeat (first | refine blk_drewN ?_ _ | refine blk_drew ?_ | refine blk_alloc ?_ _)); exact BK468.out) hb); have n2_ := Aside0.mk (below_step (by repeat (first | (with_reducible first | exact HB.out | apply below_alloc | apply pw_below_drewN | apply below_drew1 | refine below_set ?_ GE467.out | refine below_set ?_ GE468.out) | exact HB.out)) hb); clear BK467; clear BK468; clear HB; have BK467 := n0_; have BK468 := n1_; have HB := n2_; clear n0_ n1_ n2_; (try clear hb); (try clear hb2); (try clear hk); (try clear hi); have hcz16_0 : w15.cell? ⟨gb467, 0, none⟩ = some (.int .i64 a0_0) := (blk_cell BK467.out 0).trans rfl; have hcz16_1 : w15.cell? ⟨gb467, 1, none⟩ = some (.slice A0_1 l0_1.length c0_1) := (blk_cell BK467.out 1).trans rfl; have hfz16_0 := blk_frozen BK467.out 0; have hfz16_1 := blk_frozen BK467.out 1; have hcz17_0 : w15.cell? ⟨gb468, 0, none⟩ = some (.int .i64 a1_0) := (blk_cell BK468.out 0).trans rfl; have hcz17_1 : w15.cell? ⟨gb468, 1, none⟩ = some (.int .i64 a1_1) := (blk_cell BK468.out 1).trans rfl; have hfz17_0 := blk_frozen BK468.out 0; have hfz17_1 := blk_frozen BK468.out 1) | (go_at_call 42; (with_reducible refine (forecourtref05_IsStart.calls k a0_0 _ _ l0_1 a1_0 a1_1 t470 _ ?side1 ?side2 A10.out).mono ?_); (case side1 => repeat (first | exact (Kd.C_below HR0_1.out HB.out) | (with_reducible refine Kd.C_alloc ?_ _) | (with_reducible refine Kd.C_drewN ?_ _) | (with_reducible refine Kd.C_drew ?_))); (case side2 => exact HC0_1.out); rintro e w18 ⟨rfl, hb⟩; have n0_ := Aside0.mk (blk_below (g := gb467) (o := .cells #[.int .i64 a0_0, .slice A0_1 l0_1.length c0_1] 24 (0, 0)) (by (with_reducible repeat (first | refine blk_drewN ?_ _ | refine blk_drew ?_ | refine blk_alloc ?_ _)); exact BK467.out) hb); have n1_ := Aside0.mk (blk_below (g := gb468) (o := .cells #[.int .i64 a1_0, .int .i64 a1_1] 26 (0, 0)) (by (with_reducible repeat (first | refine blk_drewN ?_ _ | refine blk_drew ?_ | refine blk_alloc ?_ _)); exact BK468.out) hb); have n2_ := Aside0.mk (below_step (by repeat (first | (with_reducible first | exact HB.out | apply below_alloc | apply pw_below_drewN | apply below_drew1 | refine below_set ?_ GE467.out | refine below_set ?_ GE468.out) | exact HB.out)) hb); clear BK467; clear BK468; clear HB; have BK467 := n0_; have BK468 := n1_; have HB := n2_; clear n0_ n1_ n2_; (try clear hb); (try clear hb2); (try clear hk); (try clear hi)))
    go_ret
    exact ⟨by first | rfl | (simp [errW_none, errW_some] <;> rfl) | (simp [*, errW_none, errW_some] <;> rfl), by repeat (first | (with_reducible first | exact HB.out | apply below_alloc | apply pw_below_drewN | apply below_drew1 | refine below_set ?_ GE467.out | refine below_set ?_ GE468.out) | exact HB.out)⟩

end Go.Proofs.Ytfhmepdbbhcncaa.P

namespace Go.Proofs.Ytfhmepdbbhcncaa.P
open Go.RowKit Go.Proofs.YtfhmepdbbhcncaaW.PrintWords Go.Proofs.YtfhmepdbbhcncaaW.PrintLast
set_option linter.unusedVariables false
set_option linter.unusedSimpArgs false

/-! ### forecourtref05_Rising: function 38 -/
def forecourtref05_Rising.l0 : Nat → List Int → Int → Int → Option (Bool)
  | 0, _, _, _ => none
  | k + 1, x0, x1, x5 => if x5 < (x0.length : Int) then (if 0 ≤ x5 then (if (rd x0 x5) < 0 then (some false) else (if (rd x0 x5) ≥ x1 then (some false) else (if x5 > 0 then (if 0 ≤ (wrap64 (x5 - 1)) then (if (wrap64 (x5 - 1)) < (x0.length : Int) then (if (rd x0 x5) ≤ (rd x0 (wrap64 (x5 - 1))) then (some false) else (forecourtref05_Rising.l0 k x0 x1 (wrap64 (x5 + 1)))) else (none)) else (none)) else (forecourtref05_Rising.l0 k x0 x1 (wrap64 (x5 + 1)))))) else (none)) else (some true)
def forecourtref05_Rising.f (k : Nat) (l0 : List Int) (a1 : Int) : Option (Bool) := forecourtref05_Rising.l0 k l0 a1 0
end Go.Proofs.Ytfhmepdbbhcncaa.P

namespace Go.Proofs.Ytfhmepdbbhcncaa.P
open Go.RowKit Go.Proofs.YtfhmepdbbhcncaaW.PrintWords Go.Proofs.YtfhmepdbbhcncaaW.PrintLast Go.Proofs.YtfhmepdbbhcncaaW.PrintMore
set_option linter.unusedVariables false
set_option linter.unusedSimpArgs false

/-! Trails that are given; what Sure returns. -/
theorem rdM {l : List S58} {i : Int} (h0 : 0 ≤ i) (h1 : i < (l.length : Int)) : rd_T58 l i ∈ l := by
  have := rdT l i.toNat (by omega)
  rw [show ((i.toNat : Nat) : Int) = i by omega] at this
  rw [this]
  exact List.getElem_mem _
theorem sureT_mem (come : List Int) : ∀ (k : Nat) (x : Int), x ∈ sureT come k ↔ 0 ≤ x ∧ x < (k : Int) ∧ gc come x ≠ 1048576
  | 0, x => by
    rw [sureT]
    constructor
    · intro h; cases h
    · intro h; omega
  | k + 1, x => by
    have ih := sureT_mem come k x
    have eg : gc come (k : Int) = come.getD k 0 := rfl
    rw [sureT]
    by_cases hc : come.getD k 0 = 1048576
    · rw [if_pos hc, ih]
      constructor
      · intro h; exact ⟨h.1, by omega, h.2.2⟩
      · rintro ⟨h0, h1, h2⟩
        by_cases e : x = (k : Int)
        · subst e; exact absurd (eg.trans hc) h2
        · exact ⟨h0, by omega, h2⟩
    · rw [if_neg hc, List.mem_append, ih, List.mem_singleton]
      constructor
      · rintro (h | rfl)
        · exact ⟨h.1, by omega, h.2.2⟩
        · exact ⟨by omega, by omega, fun e => hc (eg.symm.trans e)⟩
      · rintro ⟨h0, h1, h2⟩
        by_cases e : x = (k : Int)
        · exact .inr e
        · exact .inl ⟨h0, by omega, h2⟩
theorem sureT_inc (come : List Int) : ∀ k, (sureT come k).Pairwise (· < ·)
  | 0 => List.Pairwise.nil
  | k + 1 => by
    rw [sureT]
    split
    · exact sureT_inc come k
    · rw [List.pairwise_append]
      refine ⟨sureT_inc come k, List.pairwise_singleton _ _, fun a ha b hb => ?_⟩
      rw [List.mem_singleton] at hb
      have := (sureT_mem come k a).1 ha
      omega
theorem fine_eq (n : Int) (l : List S58) (sv st : Int) (k : Nat) (hk : 1002 ≤ k) : forecourtlaw05_fine.f k n l sv st = some (decide ((l.length : Int) ≤ 50) && decide (openE n l sv st [] = 0)) := by
  unfold forecourtlaw05_fine.f forecourtlaw05_great.f
  rw [Option.bind_some]
  by_cases h : (l.length : Int) > 50
  · rw [if_pos (decide_eq_true h), decide_eq_false (by omega), Bool.false_and]
  · rw [if_neg (by simp only [decide_eq_true_eq]; exact h), refIsStart n l sv st (by omega) k hk, Option.bind_some, decide_eq_true (by omega), Bool.true_and]
    rfl
/-- What Sure returns, of a valid start. -/
structure SureR (n : Int) (l : List S58) (sv st : Int) (u : List Int) : Prop where
  mem : ∀ x, x ∈ u ↔ (0 ≤ x ∧ x < n) ∧ gc (runC sureF (fun _ => true) n l sv st).1 x ≠ 1048576
  inc : u.Pairwise (· < ·)
  len : u.length ≤ 20
theorem sureR {n : Int} {l : List S58} {sv st : Int} (h : openE n l sv st [] = 0) : SureR n l sv st (sureL n l sv st) := by
  obtain ⟨hy, hs, ht, _⟩ := open_parts h
  have h1 := hy.n1
  have h2 := hy.n2
  unfold sureL
  rw [if_pos h]
  refine ⟨fun x => ?_, sureT_inc _ _, ?_⟩
  · rw [sureT_mem]
    constructor
    · intro hx; exact ⟨⟨hx.1, by omega⟩, hx.2.2⟩
    · intro hx; exact ⟨hx.1.1, by omega, hx.2⟩
  · have := sureT_len (runC sureF (fun _ => true) n l sv st).1 n.toNat
    omega
theorem carT_mem (come : List Int) (l : List S58) : ∀ (k : Nat) (x : Int), x ∈ carT come l k ↔ 0 ≤ x ∧ x < (k : Int) ∧ gc come (rd_T58 l x).f0 ≤ (rd_T58 l x).f2.f1
  | 0, x => by
    rw [carT]
    constructor
    · intro h; cases h
    · intro h; omega
  | k + 1, x => by
    have ih := carT_mem come l k x
    have eg : l.getD k z58 = rd_T58 l (k : Int) := rfl
    rw [carT, eg]
    by_cases hc : come.getD (rd_T58 l (k : Int)).f0.toNat 0 ≤ (rd_T58 l (k : Int)).f2.f1
    · rw [if_pos hc, List.mem_append, ih, List.mem_singleton]
      constructor
      · rintro (h | rfl)
        · exact ⟨h.1, by omega, h.2.2⟩
        · exact ⟨by omega, by omega, hc⟩
      · rintro ⟨h0, h1, h2⟩
        by_cases e : x = (k : Int)
        · exact .inr e
        · exact .inl ⟨h0, by omega, h2⟩
    · rw [if_neg hc, ih]
      constructor
      · intro h
        exact ⟨h.1, by omega, h.2.2⟩
      · rintro ⟨h0, h1, h2⟩
        by_cases e : x = (k : Int)
        · subst e; exact absurd h2 hc
        · exact ⟨h0, by omega, h2⟩
end Go.Proofs.Ytfhmepdbbhcncaa.P

namespace Go.Proofs.Ytfhmepdbbhcncaa.P
open Go.RowKit Go.Proofs.YtfhmepdbbhcncaaW.PrintWords Go.Proofs.YtfhmepdbbhcncaaW.PrintLast Go.Proofs.YtfhmepdbbhcncaaW.PrintMore
set_option linter.unusedVariables false
set_option linter.unusedSimpArgs false

/-! TaintPassed, without the program. -/
theorem check_ok {n : Int} {l : List S58} (hy : YardOK n l) : checkYard n l = 0 := by
  unfold checkYard
  have h1 := hy.n1
  have h2 := hy.n2
  have h3 := hy.len
  rw [if_neg (by omega), if_neg (by omega), if_neg]
  rw [List.any_eq_true]
  rintro ⟨m, hm, hb⟩
  have := (badMove_iff n m).1 hb
  have := hy.mv m hm
  unfold BadM at *
  omega
end Go.Proofs.Ytfhmepdbbhcncaa.P

namespace Go.Proofs.Ytfhmepdbbhcncaa.P
open Go.RowKit Go.Proofs.YtfhmepdbbhcncaaW.PrintWords Go.Proofs.YtfhmepdbbhcncaaW.PrintLast
set_option linter.unusedVariables false
set_option linter.unusedSimpArgs false

/-! ### forecourtlaw05_Times: function 39 -/
def forecourtlaw05_Times.l0 : Nat → List Int → List Int → Int → Int → List (S58) → Option (List Int)
  | 0, _, _, _, _, _ => none
  | k + 1, x1, x5, x6, x472000, x472001 => if x6 < (x472001.length : Int) then (if 0 ≤ x6 then (if (x1.length : Int) > 0 then (if (x1.length : Int) = 0 then (none) else (if 0 ≤ (Int.tmod x6 (x1.length : Int)) then (if (Int.tmod x6 (x1.length : Int)) < (x1.length : Int) then (if (wrap64 ((wrap64 (((rd_T58 x472001 x6).f2.f1) - ((rd_T58 x472001 x6).f2.f0))) + 1)) = 0 then (none) else (if x5.length < 17592186044416 then (forecourtlaw05_Times.l0 k x1 (x5 ++ [wrap64 (((rd_T58 x472001 x6).f2.f0) + (Int.tmod (wrap64 (rd x1 (Int.tmod x6 (x1.length : Int)))) (wrap64 ((wrap64 (((rd_T58 x472001 x6).f2.f1) - ((rd_T58 x472001 x6).f2.f0))) + 1))))]) (wrap64 (x6 + 1)) x472000 x472001) else (none))) else (none)) else (none))) else (if x5.length < 17592186044416 then (forecourtlaw05_Times.l0 k x1 (x5 ++ [(rd_T58 x472001 x6).f2.f0]) (wrap64 (x6 + 1)) x472000 x472001) else (none))) else (none)) else (some x5)
def forecourtlaw05_Times.f (k : Nat) (a0_0 : Int) (l0_1 : List (S58)) (l1 : List Int) : Option (List Int) := forecourtlaw05_Times.l0 k l1 ([] : List Int) 0 a0_0 l0_1
end Go.Proofs.Ytfhmepdbbhcncaa.P

namespace Go.Proofs.Ytfhmepdbbhcncaa.P
open Go.RowKit Go.Proofs.YtfhmepdbbhcncaaW.PrintWords Go.Proofs.YtfhmepdbbhcncaaW.PrintLast
set_option linter.unusedVariables false
set_option linter.unusedSimpArgs false

/-! ### forecourtlaw05_Comes: function 40 -/
mutual
def forecourtlaw05_Comes.l0 : Nat → List Int → List Int → Int → Int → List (S58) → Int → Int → Option (List Int)
  | 0, _, _, _, _, _, _, _ => none
  | k + 1, x2, x7, x8, x482000, x482001, x483000, x483001 => if x8 < (x7.length : Int) then (if 0 ≤ x8 then (forecourtlaw05_Comes.l0 k x2 (x7.set (x8 : Int).toNat 1048576) (wrap64 (x8 + 1)) x482000 x482001 x483000 x483001) else (none)) else (if 0 ≤ x483000 then (if x483000 < (x7.length : Int) then (forecourtlaw05_Comes.l1 k x2 (x7.set (x483000 : Int).toNat x483001) 0 x482000 x482001) else (none)) else (none))
def forecourtlaw05_Comes.l1 : Nat → List Int → List Int → Int → Int → List (S58) → Option (List Int)
  | 0, _, _, _, _, _ => none
  | k + 1, x2, x7, x9, x482000, x482001 => if x9 < x482000 then (forecourtlaw05_Comes.l2 k x2 x7 x9 0 x482000 x482001) else (some x7)
def forecourtlaw05_Comes.l2 : Nat → List Int → List Int → Int → Int → Int → List (S58) → Option (List Int)
  | 0, _, _, _, _, _, _ => none
  | k + 1, x2, x7, x9, x10, x482000, x482001 => if x10 < (x482001.length : Int) then (forecourtlaw05_Comes.j3 k x2 x7 x9 x10 (decide (x10 < (x2.length : Int))) x482000 x482001) else (forecourtlaw05_Comes.j3 k x2 x7 x9 x10 false x482000 x482001)
def forecourtlaw05_Comes.j3 : Nat → List Int → List Int → Int → Int → Bool → Int → List (S58) → Option (List Int)
  | 0, _, _, _, _, _, _, _ => none
  | k + 1, x2, x7, x9, x10, x45, x482000, x482001 => if x45 = true then (if 0 ≤ x10 then (if x10 < (x2.length : Int) then (if x10 < (x482001.length : Int) then (if 0 ≤ ((rd_T58 x482001 x10).f0) then (if ((rd_T58 x482001 x10).f0) < (x7.length : Int) then (if (rd x2 x10) ≥ (rd x7 ((rd_T58 x482001 x10).f0)) then (if 0 ≤ ((rd_T58 x482001 x10).f1) then (if ((rd_T58 x482001 x10).f1) < (x7.length : Int) then (forecourtlaw05_Comes.l2 k x2 (x7.set (((rd_T58 x482001 x10).f1) : Int).toNat (mn (rd x7 ((rd_T58 x482001 x10).f1)) (rd x2 x10))) x9 (wrap64 (x10 + 1)) x482000 x482001) else (none)) else (none)) else (forecourtlaw05_Comes.l2 k x2 x7 x9 (wrap64 (x10 + 1)) x482000 x482001)) else (none)) else (none)) else (none)) else (none)) else (none)) else (forecourtlaw05_Comes.l1 k x2 x7 (wrap64 (x9 + 1)) x482000 x482001)
end
def forecourtlaw05_Comes.f (k : Nat) (a0_0 : Int) (l0_1 : List (S58)) (a1_0 : Int) (a1_1 : Int) (l2 : List Int) : Option (List Int) := if 0 ≤ a0_0 then (if (a0_0 : Int).toNat ≤ 35184372088832 then (forecourtlaw05_Comes.l0 k l2 (List.replicate (a0_0 : Int).toNat 0) 0 a0_0 l0_1 a1_0 a1_1) else (none)) else (none)
def forecourtlaw05_Comes.T13 : Bool × List (List Nat × List Nat) := (true, [([], []), ([], []), ([0, 1], [0, 1]), ([2], [2]), ([], []), ([], []), ([5], [5]), ([], []), ([6, 7], [6, 7]), ([8], [8]), ([9], [9]), ([4, 10], [4, 10]), ([11], [11]), ([3, 12], [3, 12])])
def forecourtlaw05_Comes.B13 : List Nat := [0, 0, 3, 7, 0, 0, 32, 0, 224, 480, 992, 2032, 4080, 8191]
theorem forecourtlaw05_Comes.tab13 : rtab .any (opsOf Try.f40 13) = forecourtlaw05_Comes.T13 := by kernel_rfl
theorem forecourtlaw05_Comes.bits13 : waitsOk forecourtlaw05_Comes.T13.2 forecourtlaw05_Comes.B13 = true := by kernel_rfl
def forecourtlaw05_Comes.T14 : Bool × List (List Nat × List Nat) := (true, [([], []), ([], []), ([1], [1]), ([], []), ([2, 3], [2, 3]), ([4], [4]), ([5], [5]), ([], []), ([], []), ([8], [8]), ([], []), ([9, 10], [9, 10]), ([11], [11]), ([12], [12]), ([7, 13], [7, 13]), ([14], [14]), ([], []), ([], []), ([16, 17], [16, 17]), ([18], [18]), ([15, 19], [15, 19]), ([0, 6, 0, 1, 2, 3, 4, 5, 6, 7, 8, 9, 10, 11, 12, 13, 14, 15, 16, 17, 18, 19, 20], [0, 6]), ([21, 20, 0, 1, 2, 3, 4, 5, 6, 7, 8, 9, 10, 11, 12, 13, 14, 15, 16, 17, 18, 19, 20], [20, 21])])
def forecourtlaw05_Comes.B14 : List Nat := [0, 0, 2, 0, 14, 30, 62, 0, 0, 256, 0, 1792, 3840, 7936, 16256, 32640, 0, 0, 196608, 458752, 1048448, 2097151, 4194303]
theorem forecourtlaw05_Comes.tab14 : rtab .any (opsOf Try.f40 14) = forecourtlaw05_Comes.T14 := by kernel_rfl
theorem forecourtlaw05_Comes.bits14 : waitsOk forecourtlaw05_Comes.T14.2 forecourtlaw05_Comes.B14 = true := by kernel_rfl
end Go.Proofs.Ytfhmepdbbhcncaa.P

namespace Go.Proofs.Ytfhmepdbbhcncaa.P
open Go.RowKit Go.Proofs.YtfhmepdbbhcncaaW.PrintWords Go.Proofs.YtfhmepdbbhcncaaW.PrintLast Go.Proofs.YtfhmepdbbhcncaaW.PrintMore
set_option linter.unusedVariables false
set_option linter.unusedSimpArgs false

/-! Times of a yard, and when taint comes by them. -/
theorem gc_take' (c : List Int) (n v : Int) (h0 : 0 ≤ v) (h1 : v < n) : gc (c.take n.toNat) v = gc c v := by
  unfold gc
  rw [List.getD_eq_getElem?_getD, List.getD_eq_getElem?_getD, List.getElem?_take, if_pos (by omega)]
end Go.Proofs.Ytfhmepdbbhcncaa.P

namespace Go.Proofs.Ytfhmepdbbhcncaa.P
open Go.RowKit Go.Proofs.YtfhmepdbbhcncaaW.PrintWords Go.Proofs.YtfhmepdbbhcncaaW.PrintLast
set_option linter.unusedVariables false
set_option linter.unusedSimpArgs false

/-! ### forecourtref05_CheckArrivals: function 21 -/
mutual
def forecourtref05_CheckArrivals.l0 : Nat → List Int → Int → Int → List (S58) → Int → Int → Option (Int)
  | 0, _, _, _, _, _, _ => none
  | k + 1, x2, x7, x286000, x286001, x287000, x287001 => if x7 < (x2.length : Int) then (if 0 ≤ x7 then (if (rd x2 x7) < 0 then (some 3) else (if (rd x2 x7) > 100000 then (if (rd x2 x7) = 1048576 then (forecourtref05_CheckArrivals.l0 k x2 (wrap64 (x7 + 1)) x286000 x286001 x287000 x287001) else (some 3)) else (forecourtref05_CheckArrivals.l0 k x2 (wrap64 (x7 + 1)) x286000 x286001 x287000 x287001))) else (none)) else (if 0 ≤ x287000 then (if x287000 < (x2.length : Int) then (if (rd x2 x287000) > x287001 then (some 14) else (forecourtref05_CheckArrivals.l1 k x2 0 x286000 x286001)) else (none)) else (none))
def forecourtref05_CheckArrivals.l1 : Nat → List Int → Int → Int → List (S58) → Option (Int)
  | 0, _, _, _, _ => none
  | k + 1, x2, x8, x286000, x286001 => if x8 < (x286001.length : Int) then (if 0 ≤ x8 then (if 0 ≤ ((rd_T58 x286001 x8).f0) then (if ((rd_T58 x286001 x8).f0) < (x2.length : Int) then (if ((rd_T58 x286001 x8).f2.f1) ≥ (rd x2 ((rd_T58 x286001 x8).f0)) then (if 0 ≤ ((rd_T58 x286001 x8).f1) then (if ((rd_T58 x286001 x8).f1) < (x2.length : Int) then (if (rd x2 ((rd_T58 x286001 x8).f1)) > (mx (rd x2 ((rd_T58 x286001 x8).f0)) ((rd_T58 x286001 x8).f2.f0)) then (some 14) else (forecourtref05_CheckArrivals.l1 k x2 (wrap64 (x8 + 1)) x286000 x286001)) else (none)) else (none)) else (forecourtref05_CheckArrivals.l1 k x2 (wrap64 (x8 + 1)) x286000 x286001)) else (none)) else (none)) else (none)) else (some 0)
end
def forecourtref05_CheckArrivals.f (k : Nat) (a0_0 : Int) (l0_1 : List (S58)) (a1_0 : Int) (a1_1 : Int) (l2 : List Int) : Option (Int) := (forecourtref05_IsStart.f k a0_0 l0_1 a1_0 a1_1).bind fun t287 => (if t287 = 0 then (if (l2.length : Int) = a0_0 then (forecourtref05_CheckArrivals.l0 k l2 0 a0_0 l0_1 a1_0 a1_1) else (some 15)) else ((forecourtref05_IsStart.f k a0_0 l0_1 a1_0 a1_1).bind fun t288 => (some t288)))
end Go.Proofs.Ytfhmepdbbhcncaa.P

namespace Go.Proofs.Ytfhmepdbbhcncaa.P
open Go.RowKit Go.Proofs.YtfhmepdbbhcncaaW.PrintWords Go.Proofs.YtfhmepdbbhcncaaW.PrintLast Go.Proofs.YtfhmepdbbhcncaaW.PrintMore
set_option linter.unusedVariables false
set_option linter.unusedSimpArgs false

end Go.Proofs.Ytfhmepdbbhcncaa.P

namespace Go.Proofs.Ytfhmepdbbhcncaa.P
open Go.RowKit Go.Proofs.YtfhmepdbbhcncaaW.PrintWords Go.Proofs.YtfhmepdbbhcncaaW.PrintLast Go.Proofs.YtfhmepdbbhcncaaW.PrintMore
set_option linter.unusedVariables false
set_option linter.unusedSimpArgs false

/-! TaintProved, without the program. -/
section
variable {n : Int} {l : List S58} {sv st : Int}
theorem arr_len (h : openE n l sv st [] = 0) : ((arrL n l sv st).length : Int) = n := by
  obtain ⟨hy, hs, ht, _⟩ := open_parts h
  have h1 := hy.n1
  have h2 := hy.n2
  obtain ⟨rk, F⟩ := run_found (fun _ => true) hy (StepOK.soon hy) ht hs
  unfold arrL
  rw [if_pos h, List.length_take, F.len]
  omega
theorem arr_gc (h : openE n l sv st [] = 0) (v : Int) (h0 : 0 ≤ v) (h1 : v < n) : gc (arrL n l sv st) v = gc (runC soonF (fun _ => true) n l sv st).1 v := by
  unfold arrL
  rw [if_pos h, gc_take' _ n v h0 h1]
theorem car_mem (h : openE n l sv st [] = 0) (x : Int) : x ∈ carL n l sv st ↔ (0 ≤ x ∧ x < (l.length : Int)) ∧ gc (arrL n l sv st) (rd_T58 l x).f0 ≤ (rd_T58 l x).f2.f1 := by
  obtain ⟨hy, hs, ht, _⟩ := open_parts h
  unfold carL
  rw [if_pos h, carT_mem]
  constructor
  · rintro ⟨a, b, e⟩
    have hm := hy.mv _ (rdM a b)
    exact ⟨⟨a, b⟩, by rw [arr_gc h _ (by omega) (by omega)]; exact e⟩
  · rintro ⟨⟨a, b⟩, e⟩
    have hm := hy.mv _ (rdM a b)
    rw [arr_gc h _ (by omega) (by omega)] at e
    exact ⟨a, b, e⟩
end
end Go.Proofs.Ytfhmepdbbhcncaa.P

namespace Go.Proofs.Ytfhmepdbbhcncaa.P
open Go.RowKit Go.Proofs.YtfhmepdbbhcncaaW.PrintWords Go.Proofs.YtfhmepdbbhcncaaW.PrintLast Go.Proofs.YtfhmepdbbhcncaaW.PrintMore
set_option linter.unusedVariables false
set_option linter.unusedSimpArgs false

/-! TaintTurned, without the program: yards whose vessels have other numbers, and whose times are greater. -/
/-- A move between vessels with other numbers, at greater times. -/
def turnM (σ : Int → Int) (up : Int) (m : S58) : S58 := ⟨σ m.f0, σ m.f1, ⟨m.f2.f0 + up, m.f2.f1 + up⟩⟩
/-- What a step does with greater times. -/
def StepSh (step : Int → S58 → Int × Bool) : Prop :=
  ∀ (m m' : S58) (t up : Int), m'.f2.f0 = m.f2.f0 + up → m'.f2.f1 = m.f2.f1 + up → (step t m).2 = true → (step (t + up) m').2 = true ∧ (step (t + up) m').1 = (step t m).1 + up
theorem StepSh.soon : StepSh soonF := fun m m' t up h0 h1 h => by
  simp only [soonF, decide_eq_true_eq] at h ⊢
  omega
theorem StepSh.sure : StepSh sureF := fun m m' t up h0 h1 h => by
  simp only [sureF, decide_eq_true_eq] at h ⊢
  omega
section
variable {n : Int} {l : List S58} {σ τ : Int → Int} {up : Int}
/-- Numbers that can be turned back. -/
structure Turn (n : Int) (σ τ : Int → Int) : Prop where
  r : ∀ v, 0 ≤ v → v < n → 0 ≤ σ v ∧ σ v < n
  r' : ∀ v, 0 ≤ v → v < n → 0 ≤ τ v ∧ τ v < n
  st : ∀ v, 0 ≤ v → v < n → τ (σ v) = v
  ts : ∀ v, 0 ≤ v → v < n → σ (τ v) = v
theorem open_yard {n : Int} {l : List S58} (hy : YardOK n l) {sv st : Int} (hsv : 0 ≤ sv ∧ sv < n) (hst : 0 ≤ st ∧ st ≤ 100000) : openE n l sv st [] = 0 := by
  unfold openE
  rw [if_neg (by rw [check_ok hy]; simp), if_neg, if_neg (by simp)]
  unfold isV withinB
  simp only [List.all_cons, List.all_nil, Bool.and_true, Bool.and_eq_false_iff, decide_eq_false_iff_not]
  omega
variable (hT : Turn n σ τ) {sv st : Int} (h : openE n l sv st [] = 0) (h' : openE n (l.map (turnM σ up)) (σ sv) (st + up) [] = 0)
include hT h h'
end
/-- The same numbers. -/
theorem Turn.same (n : Int) : Turn n (fun v => v) (fun v => v) := ⟨fun _ a b => ⟨a, b⟩, fun _ a b => ⟨a, b⟩, fun _ _ _ => rfl, fun _ _ _ => rfl⟩
/-- Numbers that are turned round. -/
theorem Turn.round {n t : Int} (hn : 0 < n) : Turn n (fun v => (v + t) % n) (fun v => (v - t) % n) where
  r := fun v _ _ => ⟨Int.emod_nonneg _ (by omega), Int.emod_lt_of_pos _ hn⟩
  r' := fun v _ _ => ⟨Int.emod_nonneg _ (by omega), Int.emod_lt_of_pos _ hn⟩
  st := fun v a b => by
    show ((v + t) % n - t) % n = v
    rw [Int.sub_emod, Int.emod_emod, ← Int.sub_emod, show v + t - t = v by omega, Int.emod_eq_of_lt a b]
  ts := fun v a b => by
    show ((v - t) % n + t) % n = v
    rw [Int.add_emod, Int.emod_emod, ← Int.add_emod, show v - t + t = v by omega, Int.emod_eq_of_lt a b]
end Go.Proofs.Ytfhmepdbbhcncaa.P

namespace Go.Proofs.Ytfhmepdbbhcncaa.P
open Go.RowKit Go.Proofs.YtfhmepdbbhcncaaW.PrintWords Go.Proofs.YtfhmepdbbhcncaaW.PrintLast
set_option linter.unusedVariables false
set_option linter.unusedSimpArgs false

/-! ### forecourtlaw05_in: function 45 -/
def forecourtlaw05_in.l0 : Nat → List Int → Int → Int → Option (Bool)
  | 0, _, _, _ => none
  | k + 1, x0, x1, x5 => if x5 < (x0.length : Int) then (if 0 ≤ x5 then (if (rd x0 x5) = x1 then (some true) else (forecourtlaw05_in.l0 k x0 x1 (wrap64 (x5 + 1)))) else (none)) else (some false)
def forecourtlaw05_in.f (k : Nat) (l0 : List Int) (a1 : Int) : Option (Bool) := forecourtlaw05_in.l0 k l0 a1 0
set_option maxHeartbeats 8000000 in
set_option maxRecDepth 100000 in
theorem forecourtlaw05_in.calls (k : Nat) (A0 : Option Addr) (c0 : Nat) (l0 : List Int) (a1 : Int) (r : Bool) (w : World) (hr0 : Kd.C (Kd.int .i64) w A0 l0.length l0) (hc0 : l0.length ≤ c0) (h : forecourtlaw05_in.f k l0 a1 = some r) :
    Calls Try.prog 45 #[.slice A0 l0.length c0, .int .i64 a1] w fun e w' => e = .returned (.bool r) ∧ Drawn0 w w' := by
  have HR0 := Aside0.mk hr0
  have HC0 := Aside0.mk hc0
  clear hr0 hc0
  have H : (forecourtlaw05_in.l0 k l0 a1 0) = some r := h
  clear h
  have H' := Aside0.mk H
  clear H
  go_enter Try.func45, Try.ntmps45
  go_wp2
  go_loopg [5] k (fun kq v5 w' => ∃ (x5_1 : Int), v5 = .int .i64 x5_1 ∧ Aside0 (forecourtlaw05_in.l0 kq l0 a1 x5_1 = some r) ∧ Aside0 (kq ≤ k) ∧ Drawn0 w w')
  case atStart => exact ⟨(0), (by first | rfl | (simp; done) | (simp [*]; done)), H', ⟨Nat.le_refl _⟩, by repeat (first | exact Drawn0.refl _ | apply Drawn0.step)⟩
  case round =>
    clear H'
    try clear p2
    obtain ⟨x5_1, rfl, HA, HK1, ⟨m1, rfl⟩⟩ := hrel
    cases gk with
    | zero => exact absurd HA.out (by simp [forecourtlaw05_in.l0])
    | succ k1 =>
      have H := HA.out
      clear HA
      simp only [forecourtlaw05_in.l0] at H
      by_cases c3 : x5_1 < (l0.length : Int)
      · rw [if_pos c3] at H
        have c3b0 : decide (x5_1 < (l0.length : Int)) = true := decide_eq_true c3
        clear c3
        by_cases c4 : 0 ≤ x5_1
        · rw [if_pos c4] at H
          have c4b0 : decide (0 ≤ x5_1) = true := decide_eq_true c4
          clear c4
          by_cases c5 : (rd l0 x5_1) = a1
          · rw [if_pos c5] at H
            have c5b0 : ((rd l0 x5_1) == a1) = true := beq_iff_eq.mpr c5
            have c5b1 : ((rd l0 x5_1) != a1) = false := bne_eq_false_iff_eq.mpr c5
            clear c5
            obtain rfl := Option.some.inj H
            have p661 : 0 ≤ (x5_1 : Int) := of_decide_eq_true (by first | (with_reducible assumption) | assumption)
            have q661 : x5_1 < (l0.length : Int) := of_decide_eq_true (by first | (with_reducible assumption) | assumption)
            obtain ⟨ad661, e661, hx661_0⟩ := Kd.at_int HR0.out x5_1 p661 q661
            cases e661
            replace p661 := eq_true p661
            replace q661 := eq_true q661
            go_wp2
            go_ret
            exact ⟨by first | rfl | (simp; done) | (simp [*]; done), by repeat (first | exact Drawn0.refl _ | apply Drawn0.step)⟩
          · rw [if_neg c5] at H
            have c5b0 : ((rd l0 x5_1) == a1) = false := beq_eq_false_iff_ne.mpr c5
            have c5b1 : ((rd l0 x5_1) != a1) = true := bne_iff_ne.mpr c5
            have H' := Aside0.mk H
            clear H
            have p661 : 0 ≤ (x5_1 : Int) := of_decide_eq_true (by first | (with_reducible assumption) | assumption)
            have q661 : x5_1 < (l0.length : Int) := of_decide_eq_true (by first | (with_reducible assumption) | assumption)
            obtain ⟨ad661, e661, hx661_0⟩ := Kd.at_int HR0.out x5_1 p661 q661
            cases e661
            replace p661 := eq_true p661
            replace q661 := eq_true q661
            go_wp2
            go_roundg k1
            case measure => have := HK1.out; omega
            case rel => exact ⟨(wrap64 (x5_1 + 1)), (by first | rfl | (simp; done) | (simp [*]; done)), H', ⟨by have := HK1.out; omega⟩, by repeat (first | exact Drawn0.refl _ | apply Drawn0.step)⟩
        · rw [if_neg c4] at H
          exact absurd H (by simp)
      · rw [if_neg c3] at H
        have c3b0 : decide (x5_1 < (l0.length : Int)) = false := decide_eq_false c3
        clear c3
        obtain rfl := Option.some.inj H
        go_wp2
        go_ret
        exact ⟨by first | rfl | (simp; done) | (simp [*]; done), by repeat (first | exact Drawn0.refl _ | apply Drawn0.step)⟩

end Go.Proofs.Ytfhmepdbbhcncaa.P

namespace Go.Proofs.Ytfhmepdbbhcncaa.P
open Go.RowKit Go.Proofs.YtfhmepdbbhcncaaW.PrintWords Go.Proofs.YtfhmepdbbhcncaaW.PrintLast Go.Proofs.YtfhmepdbbhcncaaW.PrintMore
set_option linter.unusedVariables false
set_option linter.unusedSimpArgs false

/-! The two yards of TaintTurned, as the program makes them. -/
theorem carL_len' (n : Int) (l : List S58) (sv st : Int) : (carL n l sv st).length ≤ l.length := by
  unfold carL
  split
  · exact carT_len _ _ _
  · simp
theorem in_l0 (u : List Int) (v : Int) (hl : u.length ≤ 1000) : ∀ (d i k : Nat), u.length = i + d → d < k → forecourtlaw05_in.l0 k u v (i : Int) = some (decide (v ∈ u.drop i))
  | 0, i, k, hi, hk => by
    obtain ⟨j, rfl⟩ : ∃ j, k = j + 1 := ⟨k - 1, by omega⟩
    rw [forecourtlaw05_in.l0, if_neg (by omega), List.drop_of_length_le (by omega)]
    simp
  | d + 1, i, k, hi, hk => by
    obtain ⟨j, rfl⟩ : ∃ j, k = j + 1 := ⟨k - 1, by omega⟩
    have hlt : i < u.length := by omega
    have e : u.drop i = u[i] :: u.drop (i + 1) := List.drop_eq_getElem_cons hlt
    rw [forecourtlaw05_in.l0, if_pos (by omega), if_pos (by omega), rdI u i hlt, wrap_next i (by omega), in_l0 u v hl d (i + 1) j (by omega) (by omega), e]
    by_cases h : u[i] = v
    · rw [if_pos h]
      simp [h]
    · rw [if_neg h]
      congr 1
      rw [decide_eq_decide, List.mem_cons]
      exact ⟨.inr, fun e => e.elim (fun e => absurd e.symm h) id⟩
theorem in_true {u : List Int} {v : Int} (hl : u.length ≤ 1000) (h : v ∈ u) : forecourtlaw05_in.f 1100 u v = some true := by
  have := in_l0 u v hl u.length 0 1100 (by omega) (by omega)
  rw [List.drop_zero, decide_eq_true h] at this
  exact this
end Go.Proofs.Ytfhmepdbbhcncaa.P

namespace Go.Proofs.Ytfhmepdbbhcncaa.P
open Go.RowKit Go.Proofs.YtfhmepdbbhcncaaW.PrintWords Go.Proofs.YtfhmepdbbhcncaaW.PrintLast Go.Proofs.YtfhmepdbbhcncaaW.PrintMore
set_option linter.unusedVariables false
set_option linter.unusedSimpArgs false

/-! TaintLater, without the program. -/
theorem later_le {step : Int → S58 → Int × Bool} {may : S58 → Bool} {n : Int} {l l' : List S58} (hy' : YardOK n l') {sv st st' : Int} (hst : st ≤ st') {s s' : List Int × (Int → Option Int)} {rk rk' : Int → Nat}
    (F : Found step may n l sv st s rk) (F' : Found step may n l' sv st' s' rk')
    (hm : ∀ m' ∈ l', may m' = true → ∃ m ∈ l, may m = true ∧ m.f0 = m'.f0 ∧ m.f1 = m'.f1 ∧ ∀ t t', t ≤ t' → (step t' m').2 = true → (step t m).2 = true ∧ (step t m).1 ≤ (step t' m').1) :
    ∀ (K : Nat) (v : Int), rk' v < K → 0 ≤ v → v < n → gc s'.1 v ≠ 1048576 → gc s.1 v ≤ gc s'.1 v
  | 0, v, hK, _, _, _ => absurd hK (Nat.not_lt_zero _)
  | K + 1, v, hK, h0, h1, hv => by
    by_cases hvs : v = sv
    · subst hvs
      rw [F'.own, F.own]
      exact hst
    · obtain ⟨i, hi, _, hf, hmay, hne, hok, hg, hrk⟩ := F'.sup v h0 h1 hv hvs
      have hmi := hy'.mv l'[i] (List.getElem_mem hi)
      have ih := later_le hy' hst F F' hm K l'[i].f0 (by omega) (by omega) (by omega) hne
      obtain ⟨m, hml, hmm, e0, e1, hle⟩ := hm l'[i] (List.getElem_mem hi) hmay
      rw [← e0] at ih hok hg
      obtain ⟨a, b⟩ := hle _ _ ih hok
      have := F.clo m hml hmm a
      rw [e1, hf] at this
      omega
theorem run_later {step : Int → S58 → Int × Bool} {may : S58 → Bool} {n : Int} {l l' : List S58} (hy : YardOK n l) (hy' : YardOK n l') (hs : StepOK step l) (hs' : StepOK step l') {sv st st' : Int} (hsv : 0 ≤ sv ∧ sv < n)
    (h0 : 0 ≤ st ∧ st ≤ 100000) (h0' : 0 ≤ st' ∧ st' ≤ 100000) (hst : st ≤ st')
    (hm : ∀ m' ∈ l', may m' = true → ∃ m ∈ l, may m = true ∧ m.f0 = m'.f0 ∧ m.f1 = m'.f1 ∧ ∀ t t', t ≤ t' → (step t' m').2 = true → (step t m).2 = true ∧ (step t m).1 ≤ (step t' m').1)
    (v : Int) (hv0 : 0 ≤ v) (hv1 : v < n) : gc (runC step may n l sv st).1 v ≤ gc (runC step may n l' sv st').1 v ∧ (gc (runC step may n l' sv st').1 v ≠ 1048576 → gc (runC step may n l sv st).1 v ≠ 1048576) := by
  obtain ⟨rk, F⟩ := run_found may hy hs h0 hsv
  obtain ⟨rk', F'⟩ := run_found may hy' hs' h0' hsv
  have a := later_le hy' hst F F' hm (rk' v + 1) v (by omega) hv0 hv1
  have b := F.rng v hv0 hv1
  have c := F'.rng v hv0 hv1
  by_cases e : gc (runC step may n l' sv st').1 v = 1048576
  · exact ⟨by omega, fun h => absurd e h⟩
  · have := a e
    exact ⟨this, fun _ => by omega⟩
/-- Moves of which each stands for one that can be made at least as easily. -/
def Eases (l l' : List S58) : Prop := ∀ m' ∈ l', ∃ m ∈ l, m.f0 = m'.f0 ∧ m.f1 = m'.f1 ∧ m.f2.f0 ≤ m'.f2.f0 ∧ m'.f2.f1 ≤ m.f2.f1
theorem arr_later {n : Int} {l l' : List S58} {sv st st' : Int} (h : openE n l sv st [] = 0) (h' : openE n l' sv st' [] = 0) (hst : st ≤ st') (he : Eases l l') (v : Int) (h0 : 0 ≤ v) (h1 : v < n) :
    gc (arrL n l sv st) v ≤ gc (arrL n l' sv st') v := by
  obtain ⟨hy, hs, ht, _⟩ := open_parts h
  obtain ⟨hy', _, ht', _⟩ := open_parts h'
  rw [arr_gc h v h0 h1, arr_gc h' v h0 h1]
  refine (run_later hy hy' (StepOK.soon hy) (StepOK.soon hy') hs ht ht' hst (fun m' hm' _ => ?_) v h0 h1).1
  obtain ⟨m, hm, e0, e1, e2, e3⟩ := he m' hm'
  refine ⟨m, hm, rfl, e0, e1, fun t t' hle ok => ?_⟩
  simp only [soonF, decide_eq_true_eq] at ok ⊢
  omega
theorem sure_later {n : Int} {l l' : List S58} {sv st : Int} (h : openE n l sv st [] = 0) (h' : openE n l' sv st [] = 0) (he : ∀ m ∈ l, ∃ m' ∈ l', m'.f0 = m.f0 ∧ m'.f1 = m.f1 ∧ m.f2.f0 ≤ m'.f2.f0 ∧ m'.f2.f1 ≤ m.f2.f1) :
    ∀ u ∈ sureL n l sv st, u ∈ sureL n l' sv st := by
  intro u hu
  obtain ⟨hy, hs, ht, _⟩ := open_parts h
  obtain ⟨hy', _, ht', _⟩ := open_parts h'
  rw [(sureR h).mem] at hu
  rw [(sureR h').mem]
  refine ⟨hu.1, (run_later hy' hy (StepOK.sure hy') (StepOK.sure hy) hs ht ht (Int.le_refl _) (fun m hm _ => ?_) u hu.1.1 hu.1.2).2 hu.2⟩
  obtain ⟨m', hm', e0, e1, e2, e3⟩ := he m hm
  refine ⟨m', hm', rfl, e0, e1, fun t t' hle ok => ?_⟩
  simp only [sureF, decide_eq_true_eq] at ok ⊢
  omega
theorem car_later {n : Int} {l l' : List S58} {sv st st' : Int} (h : openE n l sv st [] = 0) (h' : openE n l' sv st' [] = 0) (hst : st ≤ st') (he : Eases l l') (f : Int → Int)
    (hf : ∀ c, 0 ≤ c → c < (l'.length : Int) → (0 ≤ f c ∧ f c < (l.length : Int)) ∧ (rd_T58 l (f c)).f0 = (rd_T58 l' c).f0 ∧ (rd_T58 l' c).f2.f1 ≤ (rd_T58 l (f c)).f2.f1) :
    ∀ c ∈ carL n l' sv st', f c ∈ carL n l sv st := by
  intro c hc
  obtain ⟨hy, hs, ht, _⟩ := open_parts h
  rw [car_mem h'] at hc
  obtain ⟨a, b, d⟩ := hf c hc.1.1 hc.1.2
  rw [car_mem h]
  refine ⟨a, ?_⟩
  have hm := hy.mv _ (rdM a.1 a.2)
  have := arr_later h h' hst he (rd_T58 l (f c)).f0 hm.1 hm.2.1
  have e := hc.2
  rw [← b] at e
  omega
/-- A move in a narrower Time. -/
def narM (m : S58) (d0 d1 : Int) : S58 := ⟨m.f0, m.f1, ⟨min m.f2.f1 (m.f2.f0 + d0), max (min m.f2.f1 (m.f2.f0 + d0)) (m.f2.f1 - d1)⟩⟩
theorem narM_ok (m : S58) (d0 d1 : Int) (h0 : 0 ≤ d0) (h1 : 0 ≤ d1) (hm : m.f2.f0 ≤ m.f2.f1) : m.f2.f0 ≤ (narM m d0 d1).f2.f0 ∧ (narM m d0 d1).f2.f0 ≤ (narM m d0 d1).f2.f1 ∧ (narM m d0 d1).f2.f1 ≤ m.f2.f1 := by
  unfold narM
  show m.f2.f0 ≤ min m.f2.f1 (m.f2.f0 + d0) ∧ min m.f2.f1 (m.f2.f0 + d0) ≤ max (min m.f2.f1 (m.f2.f0 + d0)) (m.f2.f1 - d1) ∧ max (min m.f2.f1 (m.f2.f0 + d0)) (m.f2.f1 - d1) ≤ m.f2.f1
  omega
/-- What TaintLater asks of another yard and start. -/
structure LaterOK (n : Int) (l : List S58) (sv st : Int) (li : List S58) (ti : Int) (f : Int → Int) : Prop where
  op : openE n li sv ti [] = 0
  arr : ∀ v, 0 ≤ v → v < n → gc (arrL n l sv st) v ≤ gc (arrL n li sv ti) v
  car : ∀ c ∈ carL n li sv ti, f c ∈ carL n l sv st
theorem laterA {n : Int} {l : List S58} {sv st : Int} (h : openE n l sv st [] = 0) (d : Int) (hd : 0 ≤ d) : LaterOK n l sv st l (min 100000 (st + d)) (fun c => c) := by
  obtain ⟨hy, hs, ht, _⟩ := open_parts h
  have h' : openE n l sv (min 100000 (st + d)) [] = 0 := open_yard hy hs (by omega)
  have he : Eases l l := fun m hm => ⟨m, hm, rfl, rfl, Int.le_refl _, Int.le_refl _⟩
  exact ⟨h', arr_later h h' (by omega) he, car_later h h' (by omega) he _ fun c h0 h1 => ⟨⟨h0, h1⟩, rfl, Int.le_refl _⟩⟩
theorem rd_set58 (l : List S58) (k : Nat) (m : S58) (hk : k < l.length) (c : Int) (h0 : 0 ≤ c) (h1 : c < (l.length : Int)) : rd_T58 (l.set k m) c = if c = (k : Int) then m else rd_T58 l c := by
  obtain ⟨i, rfl⟩ : ∃ i : Nat, c = (i : Int) := ⟨c.toNat, by omega⟩
  rw [rdT (l.set k m) i (by rw [List.length_set]; omega), rdT l i (by omega), List.getElem_set]
  by_cases e : k = i
  · rw [if_pos e, if_pos (by omega)]
  · rw [if_neg e, if_neg (by omega)]
theorem laterB {n : Int} {l : List S58} {sv st : Int} (h : openE n l sv st [] = 0) (k : Nat) (hk : k < l.length) (d0 d1 : Int) (h0 : 0 ≤ d0) (h1 : 0 ≤ d1) :
    LaterOK n l sv st (l.set k (narM l[k] d0 d1)) st (fun c => c) ∧ ∀ u ∈ sureL n l sv st, u ∈ sureL n (l.set k (narM l[k] d0 d1)) sv st := by
  obtain ⟨hy, hs, ht, _⟩ := open_parts h
  have hmk := hy.mv l[k] (List.getElem_mem hk)
  obtain ⟨a, b, c⟩ := narM_ok l[k] d0 d1 h0 h1 hmk.2.2.2.2.2.2.1
  have hy' : YardOK n (l.set k (narM l[k] d0 d1)) := ⟨hy.n1, hy.n2, by rw [List.length_set]; exact hy.len, fun m hm => by
    rcases List.mem_or_eq_of_mem_set hm with hm | rfl
    · exact hy.mv m hm
    · exact ⟨hmk.1, hmk.2.1, hmk.2.2.1, hmk.2.2.2.1, hmk.2.2.2.2.1, by omega, b, by omega⟩⟩
  have h' : openE n (l.set k (narM l[k] d0 d1)) sv st [] = 0 := open_yard hy' hs ht
  have he : Eases l (l.set k (narM l[k] d0 d1)) := fun m hm => by
    rcases List.mem_or_eq_of_mem_set hm with hm | rfl
    · exact ⟨m, hm, rfl, rfl, Int.le_refl _, Int.le_refl _⟩
    · exact ⟨l[k], List.getElem_mem hk, rfl, rfl, a, c⟩
  refine ⟨⟨h', arr_later h h' (Int.le_refl _) he, car_later h h' (Int.le_refl _) he _ fun x hx0 hx1 => ?_⟩, sure_later h h' fun m hm => ?_⟩
  · rw [List.length_set] at hx1
    refine ⟨⟨hx0, hx1⟩, ?_⟩
    rw [rd_set58 l k _ hk x hx0 hx1]
    by_cases e : x = (k : Int)
    · subst e
      rw [if_pos rfl, rdT l k hk]
      exact ⟨rfl, c⟩
    · rw [if_neg e]
      exact ⟨rfl, Int.le_refl _⟩
  · obtain ⟨i, hi, rfl⟩ := List.mem_iff_getElem.1 hm
    by_cases e : k = i
    · subst e
      exact ⟨narM l[k] d0 d1, List.mem_iff_getElem.2 ⟨k, by rw [List.length_set]; exact hk, by rw [List.getElem_set, if_pos rfl]⟩, rfl, rfl, a, c⟩
    · exact ⟨l[i], List.mem_iff_getElem.2 ⟨i, by rw [List.length_set]; exact hi, by rw [List.getElem_set, if_neg e]⟩, rfl, rfl, Int.le_refl _, Int.le_refl _⟩
theorem laterC {n : Int} {l : List S58} {sv st : Int} (h : openE n l sv st [] = 0) (k : Nat) (hk : k < l.length) :
    LaterOK n l sv st (l.take k ++ l.drop (k + 1)) st (fun c => if (k : Int) ≤ c then c + 1 else c) := by
  obtain ⟨hy, hs, ht, _⟩ := open_parts h
  have hmem : ∀ m ∈ l.take k ++ l.drop (k + 1), m ∈ l := fun m hm => by
    rcases List.mem_append.1 hm with hm | hm
    · exact List.mem_of_mem_take hm
    · exact List.mem_of_mem_drop hm
  have hlen : (l.take k ++ l.drop (k + 1)).length = l.length - 1 := by
    rw [List.length_append, List.length_take, List.length_drop]
    omega
  have hy' : YardOK n (l.take k ++ l.drop (k + 1)) := ⟨hy.n1, hy.n2, by rw [hlen]; have := hy.len; omega, fun m hm => hy.mv m (hmem m hm)⟩
  have h' : openE n (l.take k ++ l.drop (k + 1)) sv st [] = 0 := open_yard hy' hs ht
  have he : Eases l (l.take k ++ l.drop (k + 1)) := fun m hm => ⟨m, hmem m hm, rfl, rfl, Int.le_refl _, Int.le_refl _⟩
  refine ⟨h', arr_later h h' (Int.le_refl _) he, car_later h h' (Int.le_refl _) he _ fun c h0 h1 => ?_⟩
  rw [hlen] at h1
  obtain ⟨i, rfl⟩ : ∃ i : Nat, c = (i : Int) := ⟨c.toNat, by omega⟩
  rw [rdT (l.take k ++ l.drop (k + 1)) i (by rw [hlen]; omega), List.getElem_append]
  show (0 ≤ (if (k : Int) ≤ (i : Int) then (i : Int) + 1 else (i : Int)) ∧ (if (k : Int) ≤ (i : Int) then (i : Int) + 1 else (i : Int)) < (l.length : Int)) ∧ (rd_T58 l (if (k : Int) ≤ (i : Int) then (i : Int) + 1 else (i : Int))).f0 = _ ∧ _ ≤ (rd_T58 l (if (k : Int) ≤ (i : Int) then (i : Int) + 1 else (i : Int))).f2.f1
  by_cases e : k ≤ i
  · rw [if_pos (by omega), dif_neg (by rw [List.length_take]; omega), List.getElem_drop]
    have e2 : k + 1 + (i - (l.take k).length) = i + 1 := by rw [List.length_take]; omega
    simp only [e2]
    rw [show ((i : Int) + 1) = ((i + 1 : Nat) : Int) by omega, rdT l (i + 1) (by omega)]
    exact ⟨by omega, rfl, Int.le_refl _⟩
  · rw [if_neg (by omega), dif_pos (by rw [List.length_take]; omega), List.getElem_take, rdT l i (by omega)]
    exact ⟨by omega, rfl, Int.le_refl _⟩
end Go.Proofs.Ytfhmepdbbhcncaa.P

/- Words of the print that the joined words leave out. -/
namespace Go.Proofs.YtfhmepdbbhcncaaW.PrintWords
open Go.RowKit
set_option linter.unusedVariables false
namespace Kd
section
variable {w W : World} {u : Value} {g : Nat} {o : Obj}
end
end Kd
end Go.Proofs.YtfhmepdbbhcncaaW.PrintWords

namespace Go.Proofs.Ytfhmepdbbhcncaa.P
open Go.RowKit Go.Shelf Go.Proofs.YtfhmepdbbhcncaaW.PrintWords Go.Proofs.YtfhmepdbbhcncaaW.PrintLast Go.Proofs.YtfhmepdbbhcncaaW.PrintMore Go.Proofs.YtfhmepdbbhcncaaM Go.Proofs.YtfhmepdbbhcncaaR
set_option linter.unusedVariables false
set_option linter.unusedSimpArgs false
set_option maxRecDepth 100000

/-- A law's yard and start in their boxes. -/
structure PY (w W : World) (n sv st : Int) (A : Option Addr) (c : Nat) (l : List S58) : Prop where
  y : Blk W w.heap.size 24 #[.int .i64 n, .slice A l.length c]
  s : Blk W (w.heap.size + 1) 26 #[.int .i64 sv, .int .i64 st]
  C : Kd.C k58 W A l.length l
  hc : l.length ≤ c
  g : Below w.heap.size w W
section
variable {w W W' : World} {n sv st : Int} {A : Option Addr} {c : Nat} {l : List S58}
theorem PY.below (h : PY w W n sv st A c l) (hb : Below W.heap.size W W') : PY w W' n sv st A c l :=
  ⟨h.y.below hb h.y.lt, h.s.below hb h.s.lt, Kd.C_below h.C hb, h.hc, below_then h.g h.g.size hb⟩
theorem PY.drew (h : PY w W n sv st A c l) (hd : Drawn0 W W') : PY w W' n sv st A c l := h.below (drawn_below hd)
theorem PY.init (w : World) (n sv st : Int) (A : Option Addr) (c : Nat) (l : List S58) (hC : Kd.C k58 w A l.length l) (hc : l.length ≤ c) : PY w ((w.alloc (.cells #[.int .i64 n, .slice A l.length c] 24)).alloc (.cells #[.int .i64 sv, .int .i64 st] 26)) n sv st A c l := by
  have b0 := (Blk.new w #[.int .i64 n, .slice A l.length c] 24).alloc (.cells #[.int .i64 sv, .int .i64 st] 26)
  have b1 := Blk.new (w.alloc (.cells #[.int .i64 n, .slice A l.length c] 24)) #[.int .i64 sv, .int .i64 st] 26
  simp only [World.size_alloc] at b1
  exact ⟨b0, b1, Kd.C_below hC (boxes2 _ _ _), hc, boxes2 _ _ _⟩
end
end Go.Proofs.Ytfhmepdbbhcncaa.P

/- Words of the print for a region where two operations may come up in either order. -/
namespace Go.Proofs.YtfhmepdbbhcncaaW.PrintLast
open Go.RowKit
open Go.Proofs.YtfhmepdbbhcncaaW.PrintWords (Aside0)
section
variable {P : Program} {ops : Array Oper} {Q : Exit → Act → World → Prop} {md : Region.Mode} {S : World → Prop} {ds : List Nat}
theorem two_ {i j : Nat} {Ni Nj : Option Tmp} {oi oj : Oper} {fuel : Nat} {l : Array Bool} {a : Act} {w : World} (li lj : Array Bool) (hi : ops[i]? = some oi) (hj : ops[j]? = some oj) (hNi : oi.dst = Ni) (hNj : oj.dst = Nj)
    (hc : (Region.ready md ops l == [i, j] && l.setIfInBounds i true == li && l.setIfInBounds j true == lj) = true) (hdi : i ∉ ds) (hdj : j ∉ ds)
    (h1 : ∀ K : Act → World → Prop, Shut (∀ a' w', S w' → (S w' → wpAnyLast P md ops Q S ds fuel li a' w') → K a' w') → if Region.wanted oi (yielded ops a.tmps) = true then Oper.wp P oi a w K Q else K (a.put Ni undef) w)
    (h2 : ∀ K : Act → World → Prop, Shut (∀ a' w', S w' → (S w' → wpAnyLast P md ops Q S ds fuel lj a' w') → K a' w') → if Region.wanted oj (yielded ops a.tmps) = true then Oper.wp P oj a w K Q else K (a.put Nj undef) w) :
    wpAnyLast P md ops Q S ds (fuel + 1) l a w := by
  subst hNi
  subst hNj
  simp only [Bool.and_eq_true, beq_iff_eq] at hc
  obtain ⟨⟨h3, h4⟩, h5⟩ := hc
  subst h4
  subst h5
  exact wpAnyLast_ready h3 (by simp) (AllReadyL.cons hi hdi (fun K hK => h1 K hK) (AllReadyL.cons hj hdj (fun K hK => h2 K hK) AllReadyL.nil))
/-- The act with some destinations filled. -/
def putAll : Act → List (Tmp × Value) → Act
  | a, [] => a
  | a, (n, v) :: r => putAll (a.put (some n) v) r
/-- What follows, once: s the values that the orders leave, F what is known of them and of the world. -/
theorem join_ {σ : Type} {fuel : Nat} {l : Array Bool} {a : Act} {w : World} (fuel' : Nat) (l' : Array Bool) (ns : σ → List (Tmp × Value)) (F : σ → World → Prop)
    (hcont : ∀ s w', F s w' → wpAnyLast P md ops Q S ds fuel' l' (putAll a (ns s)) w')
    (h : (∀ s w', F s w' → wpAnyLast P md ops Q S ds fuel' l' (putAll a (ns s)) w') → wpAnyLast P md ops Q S ds fuel l a w) : wpAnyLast P md ops Q S ds fuel l a w := h hcont
end
section
variable {md : Region.Mode} {ops : Array Oper} {T : Bool × List (List Nat × List Nat)} {l l' li lj lk : Array Bool} {ds : List Nat} {i j k : Nat}
theorem two_of (hT : rtab md ops = T) (h : (readyT T.2 l.toList == [i, j] && l.toList.set i true == li.toList && l.toList.set j true == lj.toList) = true) : (Region.ready md ops l == [i, j] && l.setIfInBounds i true == li && l.setIfInBounds j true == lj) = true := by
  simp only [Bool.and_eq_true] at h ⊢
  obtain ⟨⟨h1, h2⟩, h3⟩ := h
  subst hT
  exact ⟨⟨by rw [ready_eq]; exact h1, set_of h2⟩, set_of h3⟩
end
end Go.Proofs.YtfhmepdbbhcncaaW.PrintLast

