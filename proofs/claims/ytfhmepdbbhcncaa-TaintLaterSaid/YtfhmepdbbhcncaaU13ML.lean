import Derived.Test.YtfhmepdbbhcncaaML4
namespace Go.Proofs.Ytfhmepdbbhcncaa.P
open Go.RowKit Go.Shelf Go.Proofs.YtfhmepdbbhcncaaW.PrintWords Go.Proofs.YtfhmepdbbhcncaaW.PrintLast Go.Proofs.YtfhmepdbbhcncaaW.PrintMore Go.Proofs.YtfhmepdbbhcncaaM Go.Proofs.YtfhmepdbbhcncaaR
set_option linter.unusedVariables false
set_option linter.unusedSimpArgs false
set_option maxRecDepth 100000

def forecourtlaw05_TaintLater.T10 : Bool × List (List Nat × List Nat) := (true, [([], []), ([], []), ([], []), ([], []), ([2, 0, 0, 2, 3], [0, 2]), ([3, 1, 4, 0, 1, 2, 3, 4], [1, 3])])
def forecourtlaw05_TaintLater.B10 : List Nat := [0, 0, 0, 0, 13, 31]
theorem forecourtlaw05_TaintLater.tab10 : rtab .any (opsOf Try.f11 10) = forecourtlaw05_TaintLater.T10 := by kernel_rfl
theorem forecourtlaw05_TaintLater.bits10 : waitsOk forecourtlaw05_TaintLater.T10.2 forecourtlaw05_TaintLater.B10 = true := by kernel_rfl
def forecourtlaw05_TaintLater.T13 : Bool × List (List Nat × List Nat) := (true, [([], []), ([], []), ([1], [1]), ([2], [2]), ([3], [3]), ([], []), ([5], [5]), ([6], [6]), ([7], [7]), ([], []), ([9], [9]), ([10], [10]), ([8, 11], [8, 11]), ([4, 12], [4, 12]), ([0, 0, 1, 2, 3, 4, 5, 6, 7, 8, 9, 10, 11, 12, 13], [0]), ([14, 0, 1, 2, 3, 4, 5, 6, 7, 8, 9, 10, 11, 12, 13], [14]), ([15, 13, 0, 1, 2, 3, 4, 5, 6, 7, 8, 9, 10, 11, 12, 13], [13, 15])])
def forecourtlaw05_TaintLater.B13 : List Nat := [0, 0, 2, 6, 14, 0, 32, 96, 224, 0, 512, 1536, 4064, 8190, 16383, 32767, 65535]
theorem forecourtlaw05_TaintLater.tab13 : rtab .any (opsOf Try.f11 13) = forecourtlaw05_TaintLater.T13 := by kernel_rfl
theorem forecourtlaw05_TaintLater.bits13 : waitsOk forecourtlaw05_TaintLater.T13.2 forecourtlaw05_TaintLater.B13 = true := by kernel_rfl
def forecourtlaw05_TaintLater.T14 : Bool × List (List Nat × List Nat) := (true, [([], []), ([], []), ([1], [1]), ([2], [2]), ([3], [3]), ([], []), ([5], [5]), ([6], [6]), ([7], [7]), ([], []), ([9], [9]), ([10], [10]), ([8, 11], [8, 11]), ([4, 12], [4, 12]), ([0, 0, 1, 2, 3, 4, 5, 6, 7, 8, 9, 10, 11, 12, 13], [0]), ([14, 0, 1, 2, 3, 4, 5, 6, 7, 8, 9, 10, 11, 12, 13], [14]), ([15, 13, 0, 1, 2, 3, 4, 5, 6, 7, 8, 9, 10, 11, 12, 13], [13, 15])])
def forecourtlaw05_TaintLater.B14 : List Nat := [0, 0, 2, 6, 14, 0, 32, 96, 224, 0, 512, 1536, 4064, 8190, 16383, 32767, 65535]
theorem forecourtlaw05_TaintLater.tab14 : rtab .any (opsOf Try.f11 14) = forecourtlaw05_TaintLater.T14 := by kernel_rfl
theorem forecourtlaw05_TaintLater.bits14 : waitsOk forecourtlaw05_TaintLater.T14.2 forecourtlaw05_TaintLater.B14 = true := by kernel_rfl
def forecourtlaw05_TaintLater.T15 : Bool × List (List Nat × List Nat) := (true, [([], []), ([], []), ([1], [1]), ([], []), ([2, 3], [2, 3]), ([0, 4], [0, 4]), ([], []), ([6], [6]), ([], []), ([8], [8]), ([7, 9], [7, 9]), ([5, 10, 5], [5, 10]), ([0, 1, 2, 3, 4, 5, 6, 7, 8, 9, 10, 11], []), ([12, 11, 11, 0, 1, 2, 3, 4, 5, 6, 7, 8, 9, 10, 11], [11, 12])])
def forecourtlaw05_TaintLater.B15 : List Nat := [0, 0, 2, 0, 14, 31, 0, 64, 0, 256, 960, 2047, 4095, 8191]
theorem forecourtlaw05_TaintLater.tab15 : rtab .any (opsOf Try.f11 15) = forecourtlaw05_TaintLater.T15 := by kernel_rfl
theorem forecourtlaw05_TaintLater.bits15 : waitsOk forecourtlaw05_TaintLater.T15.2 forecourtlaw05_TaintLater.B15 = true := by kernel_rfl
def forecourtlaw05_TaintLater.T21 : Bool × List (List Nat × List Nat) := (true, [([], []), ([], []), ([0, 1], [0, 1]), ([2], [2]), ([], []), ([], []), ([4, 5], [4, 5]), ([6], [6]), ([3, 7], [3, 7]), ([8], [8]), ([9], [9]), ([9], [9]), ([10, 8, 0, 1, 2, 3, 4, 5, 6, 7, 8, 9, 10], [10]), ([11, 12, 0, 1, 2, 3, 4, 5, 6, 7, 8, 9, 10, 11, 12], [11])])
def forecourtlaw05_TaintLater.B21 : List Nat := [0, 0, 3, 7, 0, 0, 48, 112, 255, 511, 1023, 1023, 2047, 8191]
theorem forecourtlaw05_TaintLater.tab21 : rtab .any (opsOf Try.f11 21) = forecourtlaw05_TaintLater.T21 := by kernel_rfl
theorem forecourtlaw05_TaintLater.bits21 : waitsOk forecourtlaw05_TaintLater.T21.2 forecourtlaw05_TaintLater.B21 = true := by kernel_rfl
def forecourtlaw05_TaintLater.T22 : Bool × List (List Nat × List Nat) := (true, [([], []), ([], []), ([0, 1], [0, 1]), ([2], [2]), ([], []), ([], []), ([4, 5], [4, 5]), ([6], [6]), ([3, 7], [3, 7]), ([8], [8]), ([9], [9]), ([9], [9]), ([10, 8, 0, 1, 2, 3, 4, 5, 6, 7, 8, 9, 10], [10]), ([11, 12, 0, 1, 2, 3, 4, 5, 6, 7, 8, 9, 10, 11, 12], [11])])
def forecourtlaw05_TaintLater.B22 : List Nat := [0, 0, 3, 7, 0, 0, 48, 112, 255, 511, 1023, 1023, 2047, 8191]
theorem forecourtlaw05_TaintLater.tab22 : rtab .any (opsOf Try.f11 22) = forecourtlaw05_TaintLater.T22 := by kernel_rfl
theorem forecourtlaw05_TaintLater.bits22 : waitsOk forecourtlaw05_TaintLater.T22.2 forecourtlaw05_TaintLater.B22 = true := by kernel_rfl
/-- What is read all along. -/
structure LV (w W : World) (gy gs gl : Nat) (n sv st b0 b1 : Int) (A : Option Addr) (c : Nat) (l : List S58) : Prop where
  y : W.heap[gy]? = some (.cells #[.int .i64 n, .slice A l.length c] 24 (0, 0))
  s : W.heap[gs]? = some (.cells #[.int .i64 sv, .int .i64 st] 26 (0, 0))
  lb : W.heap[gl]? = some (.cells #[.int .u32 b0, .int .u32 b1] 70 (0, 0))
  C : Kd.C k58 W A l.length l
  hc : l.length ≤ c
  g : Below w.heap.size w W
theorem LV.below {w W W' : World} {gy gs gl : Nat} {n sv st b0 b1 : Int} {A : Option Addr} {c : Nat} {l : List S58} (h : LV w W gy gs gl n sv st b0 b1 A c l) (hb : Below W.heap.size W W') : LV w W' gy gs gl n sv st b0 b1 A c l :=
  ⟨blk_below h.y hb, blk_below h.s hb, blk_below h.lb hb, Kd.C_below h.C hb, h.hc, below_then h.g h.g.size hb⟩
theorem LV.init (w : World) (n sv st b0 b1 : Int) (A : Option Addr) (c : Nat) (l : List S58) (hC : Kd.C k58 w A l.length l) (hc : l.length ≤ c) :
    LV w (((w.alloc (.cells #[.int .i64 n, .slice A l.length c] 24)).alloc (.cells #[.int .i64 sv, .int .i64 st] 26)).alloc (.cells #[.int .u32 b0, .int .u32 b1] 70)) w.heap.size (w.heap.size + 1) (w.heap.size + 1 + 1) n sv st b0 b1 A c l := by
  have g1 := boxes2 w (.cells #[.int .i64 n, .slice A l.length c] 24) (.cells #[.int .i64 sv, .int .i64 st] 26)
  have g2 : Below w.heap.size w (((w.alloc (.cells #[.int .i64 n, .slice A l.length c] 24)).alloc (.cells #[.int .i64 sv, .int .i64 st] 26)).alloc (.cells #[.int .u32 b0, .int .u32 b1] 70)) := g1.alloc g1.size _
  have e1 := blk_new (w.alloc (.cells #[.int .i64 n, .slice A l.length c] 24)) (.cells #[.int .i64 sv, .int .i64 st] 26)
  have e2 := blk_new ((w.alloc (.cells #[.int .i64 n, .slice A l.length c] 24)).alloc (.cells #[.int .i64 sv, .int .i64 st] 26)) (.cells #[.int .u32 b0, .int .u32 b1] 70)
  simp only [World.size_alloc] at e1 e2
  exact ⟨blk_alloc (blk_alloc (blk_new _ _) _) _, blk_alloc e1 _, e2, Kd.C_below hC g2, hc, g2⟩
/-- What is known of the three yards. -/
structure LI (n sv : Int) (al cl : List Int) (k i : Nat) (li : List S58) (ti : Int) : Prop where
  op : openE n li sv ti [] = 0
  arr : ∀ v, 0 ≤ v → v < n → gc al v ≤ gc (arrL n li sv ti) v
  car : ∀ c ∈ carL n li sv ti, (0 ≤ c ∧ c ≤ 1000) ∧ (if i = 2 ∧ (k : Int) ≤ c then c + 1 else c) ∈ cl
theorem LaterOK.toI {n : Int} {l : List S58} {sv st : Int} {li : List S58} {ti : Int} {f : Int → Int} (h : LaterOK n l sv st li ti f) (k i : Nat) (hf : ∀ c, f c = if i = 2 ∧ (k : Int) ≤ c then c + 1 else c) : LI n sv (arrL n l sv st) (carL n l sv st) k i li ti :=
  ⟨h.op, h.arr, fun c hc => ⟨by
    have := (car_mem h.op c).1 hc
    have h2 := (open_parts h.op).1.len
    omega, by rw [← hf]; exact h.car c hc⟩⟩
set_option maxHeartbeats 8000000 in
set_option maxRecDepth 100000 in
set_option pp.maxSteps 10000000 in
set_option pp.deepTerms true in
theorem laterW (a0_0 : Int) (A0_1 : Option Addr) (c0_1 : Nat) (l0_1 : List (S58)) (a1_0 a1_1 a2 a3 b0 b1 : Int) (w : World) (hr0_1 : Kd.C k58 w A0_1 l0_1.length l0_1) (hc0_1 : l0_1.length ≤ c0_1) (h2 : 0 ≤ a2 ∧ a2 ≤ 4294967295) (h3 : 0 ≤ a3 ∧ a3 ≤ 255) (h4 : 0 ≤ b0 ∧ b0 ≤ 4294967295) (h5 : 0 ≤ b1 ∧ b1 ≤ 4294967295) :
    Calls Try.prog 11 #[.agg #[.int .i64 a0_0, .slice A0_1 l0_1.length c0_1], .agg #[.int .i64 a1_0, .int .i64 a1_1], .int .u32 a2, .int .u8 a3, .agg #[.int .u32 b0, .int .u32 b1]] w fun e w' => e = .returned (.bool true) ∧ Below w.heap.size w w' := by
  have hfe := fine_eq a0_0 l0_1 a1_0 a1_1 3000 (by omega)
  obtain ⟨F, hF⟩ : ∃ F, (decide ((l0_1.length : Int) ≤ 50) && decide (openE a0_0 l0_1 a1_0 a1_1 [] = 0)) = F := ⟨_, rfl⟩
  rw [hF] at hfe
  have HQ := Lib.hid (LV.init w a0_0 a1_0 a1_1 b0 b1 A0_1 c0_1 l0_1 hr0_1 hc0_1)
  have HFE := Lib.hid hfe
  clear hfe hr0_1
  go_enter Try.func11, Try.ntmps11
  go_upto_region 1 with (fail)
  generalize ((w.alloc (.cells #[.int .i64 a0_0, .slice A0_1 l0_1.length c0_1] 24)).alloc (.cells #[.int .i64 a1_0, .int .i64 a1_1] 26)).alloc (.cells #[.int .u32 b0, .int .u32 b1] 70) = W0 at *
  obtain ⟨gy, eg0⟩ : ∃ gy, w.heap.size = gy := ⟨_, rfl⟩
  rw [eg0] at HQ ⊢
  generalize eg1 : gy + 1 = gs at *
  generalize eg2 : gs + 1 = gl at *
  clear eg1 eg2
  have y0 : W0.cell? ⟨gy, 0, none⟩ = some (.int .i64 a0_0) := (blk_cell HQ.out.y 0).trans rfl
  have y1 : W0.cell? ⟨gy, 1, none⟩ = some (.slice A0_1 l0_1.length c0_1) := (blk_cell HQ.out.y 1).trans rfl
  have s0 : W0.cell? ⟨gs, 0, none⟩ = some (.int .i64 a1_0) := (blk_cell HQ.out.s 0).trans rfl
  have s1 : W0.cell? ⟨gs, 1, none⟩ = some (.int .i64 a1_1) := (blk_cell HQ.out.s 1).trans rfl
  cases F with
  | false => as_aux_lemma =>
    go_wp2_with (first
      | (go_at_call 37; refine (forecourtlaw05_fine.calls 3000 a0_0 A0_1 c0_1 l0_1 a1_0 a1_1 false _ HQ.out.C HQ.out.hc HFE.out).mono ?_; rintro e W1 ⟨rfl, hb⟩; have HB := Lib.hid hb; clear hb)
      | (go_at_call 15; refine (works_calls _).mono ?_; rintro e W2 ⟨rfl, hb⟩; have HB2 := Lib.hid hb; clear hb))
    go_ret
    exact ⟨rfl, by rw [← eg0] at *; exact (HQ.out.below HB.out).g.trans (HB2.out.mono (Nat.le_trans HQ.out.g.size HB.out.size))⟩
  | true =>
    by_cases hl0 : l0_1.length = 0
    · as_aux_lemma =>
      have hl1 : ((l0_1.length : Int) == 0) = true := by simp [hl0]
      have hl2 : (l0_1.length == 0) = true := by simp [hl0]
      have hl3 : (l0_1.isEmpty) = true := by simpa using List.eq_nil_of_length_eq_zero hl0
      clear hl0 hF
      go_wp2_with (first
        | (go_at_call 37; refine (forecourtlaw05_fine.calls 3000 a0_0 A0_1 c0_1 l0_1 a1_0 a1_1 true _ HQ.out.C HQ.out.hc HFE.out).mono ?_; rintro e W1 ⟨rfl, hb⟩; have HB := Lib.hid hb; clear hb; have y3 : W1.cell? ⟨gy, 1, none⟩ = some (.slice A0_1 l0_1.length c0_1) := (blk_cell (HQ.out.below HB.out).y 1).trans rfl)
        | (go_at_call 15; refine (works_calls _).mono ?_; rintro e W2 ⟨rfl, hb⟩; have HB2 := Lib.hid hb; clear hb))
      go_ret
      exact ⟨rfl, by rw [← eg0] at *; exact (HQ.out.below HB.out).g.trans (HB2.out.mono (Nat.le_trans HQ.out.g.size HB.out.size))⟩
    · have hl1 : ((l0_1.length : Int) == 0) = false := beq_eq_false_iff_ne.mpr (by omega)
      have hl2 : (l0_1.length == 0) = false := beq_eq_false_iff_ne.mpr (by omega)
      have hop : openE a0_0 l0_1 a1_0 a1_1 [] = 0 := by
        rw [Bool.and_eq_true] at hF
        exact of_decide_eq_true hF.2
      obtain ⟨hy, hsv, hst, _⟩ := open_parts hop
      have hn1 := hy.n1
      have hn2 := hy.n2
      have hln := hy.len
      have hlp : 0 < l0_1.length := by omega
      have HY := Lib.hid hy
      have HOP := Lib.hid hop
      clear hy hop hF hl0
      go_upto_region 3 with (go_at_call 37; refine (forecourtlaw05_fine.calls 3000 a0_0 A0_1 c0_1 l0_1 a1_0 a1_1 true _ HQ.out.C HQ.out.hc HFE.out).mono ?_; rintro e W1 ⟨rfl, hb⟩; have HB := Lib.hid hb; clear hb; have y3 : W1.cell? ⟨gy, 1, none⟩ = some (.slice A0_1 l0_1.length c0_1) := (blk_cell (HQ.out.below HB.out).y 1).trans rfl)
      clear y3 HFE
      clear y0 y1 s0 s1
      replace HQ := Lib.hid (HQ.out.below HB.out)
      clear HB
      have y0 : W1.cell? ⟨gy, 0, none⟩ = some (.int .i64 a0_0) := (blk_cell HQ.out.y 0).trans rfl
      have y1 : W1.cell? ⟨gy, 1, none⟩ = some (.slice A0_1 l0_1.length c0_1) := (blk_cell HQ.out.y 1).trans rfl
      go_upto_region 4 with (fail)
      clear y0 y1
      obtain ⟨k, hk0⟩ : ∃ k : Nat, a3 % (l0_1.length : Int) = (k : Int) := ⟨(a3 % (l0_1.length : Int)).toNat, by have := Int.emod_nonneg a3 (show (l0_1.length : Int) ≠ 0 by omega); omega⟩
      have hk1 : k < l0_1.length := by have := Int.emod_lt_of_pos a3 (show 0 < (l0_1.length : Int) by omega); omega
      rw [hk0]
      clear hk0 h3 hl1 hl2
      have LA := laterA HOP.out a2 h2.1
      have LB := laterB HOP.out k hk1 b0 b1 h4.1 h5.1
      have LC := laterC HOP.out k hk1
      have I0 := LA.toI k 0 (fun c => by simp)
      have I1 := LB.1.toI k 1 (fun c => by simp)
      have I2 := LC.toI k 2 (fun c => by simp)
      have HSX := LB.2
      clear LA LB LC
      have hal := arr_len HOP.out
      have L2 := (sureR HOP.out).len
      have L3 := carL_len' a0_0 l0_1 a1_0 a1_1
      have y0 : W1.cell? ⟨gy, 0, none⟩ = some (.int .i64 a0_0) := (blk_cell HQ.out.y 0).trans rfl
      have y1 : W1.cell? ⟨gy, 1, none⟩ = some (.slice A0_1 l0_1.length c0_1) := (blk_cell HQ.out.y 1).trans rfl
      have s0 : W1.cell? ⟨gs, 0, none⟩ = some (.int .i64 a1_0) := (blk_cell HQ.out.s 0).trans rfl
      have s1 : W1.cell? ⟨gs, 1, none⟩ = some (.int .i64 a1_1) := (blk_cell HQ.out.s 1).trans rfl
      have HK := Lib.hid (arrivals_calls a0_0 A0_1 c0_1 l0_1 a1_0 a1_1 W1 HQ.out.C)
      rw [HOP.out] at HK
      go_upto_region 5 with (go_at_call 22; refine (HK.out).mono ?_; rintro e W2 ⟨va, rfl, ho, hb⟩; obtain ⟨Aa, ca, hv_⟩ := Kd.R_slice ho; subst hv_; have HA := Lib.hid (Rd.of ho); have HB := Lib.hid hb; clear ho hb)
      clear HK
      clear y0 y1 s0 s1
      replace HQ := Lib.hid (HQ.out.below HB.out)
      clear HB
      have y0 : W2.cell? ⟨gy, 0, none⟩ = some (.int .i64 a0_0) := (blk_cell HQ.out.y 0).trans rfl
      have y1 : W2.cell? ⟨gy, 1, none⟩ = some (.slice A0_1 l0_1.length c0_1) := (blk_cell HQ.out.y 1).trans rfl
      have s0 : W2.cell? ⟨gs, 0, none⟩ = some (.int .i64 a1_0) := (blk_cell HQ.out.s 0).trans rfl
      have s1 : W2.cell? ⟨gs, 1, none⟩ = some (.int .i64 a1_1) := (blk_cell HQ.out.s 1).trans rfl
      have HK := Lib.hid (carried_calls a0_0 A0_1 c0_1 l0_1 a1_0 a1_1 W2 HQ.out.C)
      rw [HOP.out] at HK
      go_upto_region 6 with (go_at_call 24; refine (HK.out).mono ?_; rintro e W3 ⟨va, rfl, ho, hb⟩; obtain ⟨Ac, cc, hv_⟩ := Kd.R_slice ho; subst hv_; have HC := Lib.hid (Rd.of ho); have HB := Lib.hid hb; clear ho hb)
      clear HK
      clear y0 y1 s0 s1
      replace HQ := Lib.hid (HQ.out.below HB.out)
      replace HA := Lib.hid (HA.out.below HB.out)
      clear HB
      have y0 : W3.cell? ⟨gy, 0, none⟩ = some (.int .i64 a0_0) := (blk_cell HQ.out.y 0).trans rfl
      have y1 : W3.cell? ⟨gy, 1, none⟩ = some (.slice A0_1 l0_1.length c0_1) := (blk_cell HQ.out.y 1).trans rfl
      have s0 : W3.cell? ⟨gs, 0, none⟩ = some (.int .i64 a1_0) := (blk_cell HQ.out.s 0).trans rfl
      have s1 : W3.cell? ⟨gs, 1, none⟩ = some (.int .i64 a1_1) := (blk_cell HQ.out.s 1).trans rfl
      have HK := Lib.hid (sure_calls a0_0 A0_1 c0_1 l0_1 a1_0 a1_1 W3 HQ.out.C)
      rw [HOP.out] at HK
      go_upto_region 7 with (go_at_call 26; refine (HK.out).mono ?_; rintro e W4 ⟨va, rfl, ho, hb⟩; obtain ⟨Au, cu, hv_⟩ := Kd.R_slice ho; subst hv_; have HU := Lib.hid (Rd.of ho); have HB := Lib.hid hb; clear ho hb)
      clear HK
      clear y0 y1 s0 s1
      replace HQ := Lib.hid (HQ.out.below HB.out)
      replace HA := Lib.hid (HA.out.below HB.out)
      replace HC := Lib.hid (HC.out.below HB.out)
      clear HB
      generalize arrL a0_0 l0_1 a1_0 a1_1 = al at *
      generalize carL a0_0 l0_1 a1_0 a1_1 = cl at *
      generalize sureL a0_0 l0_1 a1_0 a1_1 = ul at *
      replace I0 := Lib.hid I0
      replace I1 := Lib.hid I1
      replace I2 := Lib.hid I2
      replace HSX := Lib.hid HSX
      have y0 : W4.cell? ⟨gy, 0, none⟩ = some (.int .i64 a0_0) := (blk_cell HQ.out.y 0).trans rfl
      have y1 : W4.cell? ⟨gy, 1, none⟩ = some (.slice A0_1 l0_1.length c0_1) := (blk_cell HQ.out.y 1).trans rfl
      have s0 : W4.cell? ⟨gs, 0, none⟩ = some (.int .i64 a1_0) := (blk_cell HQ.out.s 0).trans rfl
      have s1 : W4.cell? ⟨gs, 1, none⟩ = some (.int .i64 a1_1) := (blk_cell HQ.out.s 1).trans rfl
      have hal2 : ((al.length : Int) != a0_0) = false := by simp [hal]
      have hls : min 100000 (wrap64 (a1_1 + wrap64 a2)) = min 100000 (a1_1 + a2) := by rw [wrap_ok a2 (by omega) (by omega), wrap_ok _ (by omega) (by omega)]
      have hls0 : 0 ≤ a1_1 + a2 := by omega
      go_upto_region 10 with (go_at_call 44; refine (forecourtlaw05_From.calls a1_0 (min 100000 (a1_1 + a2)) a1_0 (min 100000 (a1_1 + a2)) _ rfl).mono ?_; rintro e W5 ⟨rfl, hb⟩; have HB := Lib.hid hb; clear hb)
      clear hls hal2
      clear y0 y1 s0 s1
      replace HQ := Lib.hid (HQ.out.below HB.out)
      replace HA := Lib.hid (HA.out.below HB.out)
      replace HC := Lib.hid (HC.out.below HB.out)
      replace HU := Lib.hid (HU.out.below HB.out)
      clear HB
      have HLB := Lib.hid (blk_new W5 (.cells #[.int .i64 a1_0, .int .i64 (min 100000 (a1_1 + a2))] 26))
      have HB := Lib.hid ((Below.refl W5.heap.size W5).alloc (Nat.le_refl _) (.cells #[.int .i64 a1_0, .int .i64 (min 100000 (a1_1 + a2))] 26))
      replace HQ := Lib.hid (HQ.out.below HB.out)
      replace HA := Lib.hid (HA.out.below HB.out)
      replace HC := Lib.hid (HC.out.below HB.out)
      replace HU := Lib.hid (HU.out.below HB.out)
      clear HB
      generalize W5.alloc (.cells #[.int .i64 a1_0, .int .i64 (min 100000 (a1_1 + a2))] 26) = W6 at *
      generalize W5.heap.size = gq at *
      have hlt0 : 0 ≤ min 100000 (a1_1 + a2) ∧ min 100000 (a1_1 + a2) ≤ 100000 := by omega
      generalize min 100000 (a1_1 + a2) = lt at *
      clear hls0 h2
      obtain ⟨Wd, ed⟩ : ∃ Wd, W6.drew = Wd := ⟨_, rfl⟩
      have HB := Lib.hid (show Below W6.heap.size W6 Wd from by rw [← ed]; exact below_drew (Below.refl _ _))
      replace HQ := Lib.hid (HQ.out.below HB.out)
      replace HA := Lib.hid (HA.out.below HB.out)
      replace HC := Lib.hid (HC.out.below HB.out)
      replace HU := Lib.hid (HU.out.below HB.out)
      replace HLB := Lib.hid (blk_below HLB.out HB.out)
      clear HB
      refine start_ (n := 6) (S := fun w' => w'.cell? ⟨gy, 0, none⟩ = some (.int .i64 a0_0) ∧ w'.cell? ⟨gy, 1, none⟩ = some (.slice A0_1 l0_1.length c0_1)) (ds := []) #[false, false, false, false, false, false] (by kernel_rfl) rfl rfl (by rw [ed]; exact ⟨(blk_cell HQ.out.y 0).trans rfl, (blk_cell HQ.out.y 1).trans rfl⟩) (fun hHeld => ?_); refine with_tabW forecourtlaw05_TaintLater.tab10 forecourtlaw05_TaintLater.bits10 (fun HT_ HW_ => ?_)
      rw [ed] at hHeld ⊢
      refine take_ (i := 0) (N := some 96) (v := ?_) (a' := ?_) #[true, false, false, false, false, false] rfl rfl (take_ofW HT_.out HW_.out (by kernel_rfl)) (fun _ _ _ h => h) (Or.inl ⟨by rfl, ?_⟩) hHeld ?_ ?_
      rotate_left
      · rintro w' ⟨y0, y1⟩
        go_simp
        with_reducible rfl
      rotate_left
      · simp only [Act.put, List.setIfInBounds_toArray, List.set_cons_zero, List.set_cons_succ, i64_w, i32_w]
        rfl
      refine take_ (i := 1) (N := some 97) (v := ?_) (a' := ?_) #[true, true, false, false, false, false] rfl rfl (take_ofW HT_.out HW_.out (by kernel_rfl)) (fun _ _ _ h => h) (Or.inl ⟨by rfl, ?_⟩) hHeld ?_ ?_
      rotate_left
      · rintro w' ⟨y0, y1⟩
        go_simp
        with_reducible rfl
      rotate_left
      · simp only [Act.put, List.setIfInBounds_toArray, List.set_cons_zero, List.set_cons_succ, i64_w, i32_w]
        rfl
      refine join_ (σ := Nat × Nat) 2 #[true, true, true, true, false, false] (fun s_ => [(19, .pointer (some ⟨s_.1, 0, none⟩)), (20, .pointer (some ⟨s_.2, 0, none⟩))]) (fun s_ w' => (w'.cell? ⟨gy, 0, none⟩ = some (.int .i64 a0_0) ∧ w'.cell? ⟨gy, 1, none⟩ = some (.slice A0_1 l0_1.length c0_1)) ∧ w'.heap[s_.1]? = some (.cells #[.int .i64 0, .slice none 0 0] 24 (0, 0)) ∧ w'.heap[s_.2]? = some (.cells #[.int .i64 0, .slice none 0 0] 24 (0, 0)) ∧ s_.1 ≠ s_.2 ∧ Wd.heap.size ≤ s_.1 ∧ Wd.heap.size ≤ s_.2 ∧ Below Wd.heap.size Wd w') ?_ ?_
      rotate_left
      · intro hCont
        refine two_ (i := 2) (j := 3) (Ni := some 19) (Nj := some 20) #[true, true, true, false, false, false] #[true, true, false, true, false, false] rfl rfl rfl rfl (two_of HT_.out (by kernel_rfl)) (by decide) (by decide) (fun K hK => ?_) (fun K hK => ?_)
        · skip
          refine box_step ?hg (N := 19) ?hd (cs := #[.int .i64 0, .slice none 0 0]) (t := 24) ?hr ?_; (case hd => rfl); (case hg => rfl); (case hr => first | (go_simp; done) | (go_simp; rfl))
          intro gx hg w7 hbox hb
          refine hK.out _ _ ⟨(blk_cell (blk_below HQ.out.y hb) 0).trans rfl, (blk_cell (blk_below HQ.out.y hb) 1).trans rfl⟩ (fun hHeld => ?_)
          clear hK K
          refine norm_ (a' := ?_) ?_ ?_
          rotate_left
          · show Act.put _ (some 19) _ = _
            simp only [Act.put, List.setIfInBounds_toArray, List.set_cons_zero, List.set_cons_succ, i64_w, i32_w]
            rfl
          refine one_ (i := 3) (N := some 20) #[true, true, true, true, false, false] rfl rfl (one_of HT_.out (by kernel_rfl)) (by decide) (fun K hK => ?_)
          refine box_step ?hg (N := 20) ?hd (cs := #[.int .i64 0, .slice none 0 0]) (t := 24) ?hr ?_; (case hd => rfl); (case hg => rfl); (case hr => first | (go_simp; done) | (go_simp; rfl))
          intro gz hg2 w8 hbox2 hb2
          refine hK.out _ _ ⟨(blk_cell (blk_below (blk_below HQ.out.y hb) hb2) 0).trans rfl, (blk_cell (blk_below (blk_below HQ.out.y hb) hb2) 1).trans rfl⟩ (fun hHeld2 => ?_)
          clear hK K
          refine norm_ (a' := ?_) ?_ ?_
          rotate_left
          · show Act.put _ (some 20) _ = _
            simp only [Act.put, List.setIfInBounds_toArray, List.set_cons_zero, List.set_cons_succ, i64_w, i32_w]
            rfl
          exact norm_ (by simp only [putAll, Act.put, List.setIfInBounds_toArray, List.set_cons_zero, List.set_cons_succ]) (hCont (gx, gz) _ ⟨hHeld2, blk_below hbox hb2, hbox2, by have := blk_lt hbox; show gx ≠ gz; omega, by show _ ≤ gx; omega, by have := hb.size; show _ ≤ gz; omega, below_then hb hb.size hb2⟩)
        · skip
          refine box_step ?hg (N := 20) ?hd (cs := #[.int .i64 0, .slice none 0 0]) (t := 24) ?hr ?_; (case hd => rfl); (case hg => rfl); (case hr => first | (go_simp; done) | (go_simp; rfl))
          intro gz hg w7 hbox hb
          refine hK.out _ _ ⟨(blk_cell (blk_below HQ.out.y hb) 0).trans rfl, (blk_cell (blk_below HQ.out.y hb) 1).trans rfl⟩ (fun hHeld => ?_)
          clear hK K
          refine norm_ (a' := ?_) ?_ ?_
          rotate_left
          · show Act.put _ (some 20) _ = _
            simp only [Act.put, List.setIfInBounds_toArray, List.set_cons_zero, List.set_cons_succ, i64_w, i32_w]
            rfl
          refine one_ (i := 2) (N := some 19) #[true, true, true, true, false, false] rfl rfl (one_of HT_.out (by kernel_rfl)) (by decide) (fun K hK => ?_)
          refine box_step ?hg (N := 19) ?hd (cs := #[.int .i64 0, .slice none 0 0]) (t := 24) ?hr ?_; (case hd => rfl); (case hg => rfl); (case hr => first | (go_simp; done) | (go_simp; rfl))
          intro gx hg2 w8 hbox2 hb2
          refine hK.out _ _ ⟨(blk_cell (blk_below (blk_below HQ.out.y hb) hb2) 0).trans rfl, (blk_cell (blk_below (blk_below HQ.out.y hb) hb2) 1).trans rfl⟩ (fun hHeld2 => ?_)
          clear hK K
          refine norm_ (a' := ?_) ?_ ?_
          rotate_left
          · show Act.put _ (some 19) _ = _
            simp only [Act.put, List.setIfInBounds_toArray, List.set_cons_zero, List.set_cons_succ, i64_w, i32_w]
            rfl
          exact norm_ (by simp only [putAll, Act.put, List.setIfInBounds_toArray, List.set_cons_zero, List.set_cons_succ]) (hCont (gx, gz) _ ⟨hHeld2, hbox2, blk_below hbox hb2, by have := blk_lt hbox; show gx ≠ gz; omega, by have := hb.size; show _ ≤ gx; omega, by show _ ≤ gz; omega, below_then hb hb.size hb2⟩)
      rintro ⟨gx, gz⟩ w9 ⟨hHeld, hbx, hbz, hxz, hgx, hgz, hbw⟩
      replace hbx : w9.heap[gx]? = some (.cells #[.int .i64 0, .slice none 0 0] 24 (0, 0)) := hbx
      replace hbz : w9.heap[gz]? = some (.cells #[.int .i64 0, .slice none 0 0] 24 (0, 0)) := hbz
      replace hxz : gx ≠ gz := hxz
      replace hgx : Wd.heap.size ≤ gx := hgx
      replace hgz : Wd.heap.size ≤ gz := hgz
      refine norm_ (a' := ?_) ?_ ?_
      rotate_left
      · simp only [putAll, Act.put, List.setIfInBounds_toArray, List.set_cons_zero, List.set_cons_succ]
        rfl
      refine one_ (i := 4) (N := none) #[true, true, true, true, true, false] rfl rfl (one_of HT_.out (by kernel_rfl)) (by decide) (fun K hK => ?_)
      have e0 : w9.cell? ⟨gx, 0, none⟩ = some (.int .i64 0) := (blk_cell hbx 0).trans rfl
      have e1 := blk_frozen hbx 0
      have e2 : w9.cell? ⟨gx, 1, none⟩ = some (.slice none 0 0) := (blk_cell hbx 1).trans rfl
      have e3 := blk_frozen hbx 1
      refine skip_ (w1 := ?_) (by rfl) rfl ?_ ?_
      rotate_left
      · go_simp
        rfl
      clear e0 e1 e2 e3
      have hbx2 : ((w9.setCell ⟨gx, 0, none⟩ (.int .i64 a0_0)).setCell ⟨gx, 1, none⟩ (.slice A0_1 l0_1.length c0_1)).heap[gx]? = some (.cells #[.int .i64 a0_0, .slice A0_1 l0_1.length c0_1] 24 (0, 0)) := blk_put (cs := #[.int .i64 a0_0, .slice none 0 0]) (blk_put (cs := #[.int .i64 0, .slice none 0 0]) hbx 0 _ rfl) 1 _ rfl
      have hbz2 := blk_far (p := ⟨gx, 1, none⟩) (blk_far (p := ⟨gx, 0, none⟩) hbz (fun h => hxz h.symm) (.int .i64 a0_0)) (fun h => hxz h.symm) (.slice A0_1 l0_1.length c0_1)
      have hbw2 := below_set (j := 1) (v := .slice A0_1 l0_1.length c0_1) (below_set (j := 0) (v := .int .i64 a0_0) hbw hgx) hgx
      refine hK.out _ _ ⟨(blk_cell (blk_below HQ.out.y hbw2) 0).trans rfl, (blk_cell (blk_below HQ.out.y hbw2) 1).trans rfl⟩ (fun hHeld => ?_)
      clear hK K hbx hbz hbw
      generalize (w9.setCell ⟨gx, 0, none⟩ (.int .i64 a0_0)).setCell ⟨gx, 1, none⟩ (.slice A0_1 l0_1.length c0_1) = w10 at *
      refine one_ (i := 5) (N := none) #[true, true, true, true, true, true] rfl rfl (one_of HT_.out (by kernel_rfl)) (by decide) (fun K hK => ?_)
      have e0 : w10.cell? ⟨gz, 0, none⟩ = some (.int .i64 0) := (blk_cell hbz2 0).trans rfl
      have e1 := blk_frozen hbz2 0
      have e2 : w10.cell? ⟨gz, 1, none⟩ = some (.slice none 0 0) := (blk_cell hbz2 1).trans rfl
      have e3 := blk_frozen hbz2 1
      refine skip_ (w1 := ?_) (by rfl) rfl ?_ ?_
      rotate_left
      · go_simp
        rfl
      clear e0 e1 e2 e3
      have hbz3 : ((w10.setCell ⟨gz, 0, none⟩ (.int .i64 a0_0)).setCell ⟨gz, 1, none⟩ (.slice A0_1 l0_1.length c0_1)).heap[gz]? = some (.cells #[.int .i64 a0_0, .slice A0_1 l0_1.length c0_1] 24 (0, 0)) := blk_put (cs := #[.int .i64 a0_0, .slice none 0 0]) (blk_put (cs := #[.int .i64 0, .slice none 0 0]) hbz2 0 _ rfl) 1 _ rfl
      have hbx3 := blk_far (p := ⟨gz, 1, none⟩) (blk_far (p := ⟨gz, 0, none⟩) hbx2 (fun h => hxz h) (.int .i64 a0_0)) (fun h => hxz h) (.slice A0_1 l0_1.length c0_1)
      have hbw3 := below_set (j := 1) (v := .slice A0_1 l0_1.length c0_1) (below_set (j := 0) (v := .int .i64 a0_0) hbw2 hgz) hgz
      refine hK.out _ _ ⟨(blk_cell (blk_below HQ.out.y hbw3) 0).trans rfl, (blk_cell (blk_below HQ.out.y hbw3) 1).trans rfl⟩ (fun hHeld => ?_)
      clear hK K hbx2 hbz2 hbw2
      refine done_ (done_of HT_.out (by kernel_rfl)) ?_
      have HWB := Lib.hid hbw3
      have HXB := Lib.hid hbx3
      have HZB := Lib.hid hbz3
      have HGX := Lib.hid (show gx ≠ gz ∧ Wd.heap.size ≤ gx ∧ Wd.heap.size ≤ gz from ⟨hxz, hgx, hgz⟩)
      clear hbx3 hbz3 hbw3 hHeld HT_ HW_ hxz hgx hgz
      generalize (w10.setCell ⟨gz, 0, none⟩ (.int .i64 a0_0)).setCell ⟨gz, 1, none⟩ (.slice A0_1 l0_1.length c0_1) = W7 at *
      have hQ7 := HQ.out.below HWB.out
      obtain ⟨ad, eA, hcells⟩ := C_cells (Kd.C_below hQ7.C (below_alloc (Below.refl _ _) (.cells #[] 58))) hlp
      subst eA
      have hown0 : (W7.alloc (.cells #[] 58)).ownsRow W7.heap.size 58 4 (.slice (some ⟨W7.heap.size, 0, none⟩) 0 0) ([] : List S58).length (cellsM []) := ⟨rfl, .inr ⟨_, 0, #[], rfl, Nat.le_refl _, blk_new _ _, Nat.le_refl _, by decide, rfl, rfl⟩⟩
      obtain ⟨vx, wx, hap, hox, hgr, hnx⟩ := app58 hown0 ad c0_1 l0_1 hcells (by simp; omega) (by simp)
      rw [List.nil_append] at hox
      obtain ⟨gm, cm, evx, hgm, hgm2⟩ := own_form hox (by rw [Ne, hnx]; rintro ⟨h, _⟩; cases h)
      subst evx
      have hwx : Below W7.heap.size W7 wx := below_grown (below_alloc (Below.refl _ _) (.cells #[] 58)) hgr (fun r hr => by simp [Value.ownBlock] at hr; omega)
      have hxw := blk_below HXB.out hwx
      have hzw := blk_below HZB.out hwx
      have hxlt := blk_lt HXB.out
      have hgxm : gx ≠ gm := by omega
      have hgzm : gz ≠ gm := by have := blk_lt HZB.out; omega
      have hgx := HGX.out.2.1
      have hwd := HWB.out.size
      have hbw4 := below_set (j := 1) (v := .slice (some ⟨gm, 0, none⟩) l0_1.length cm) (below_then HWB.out hwd hwx) hgx
      have HXB2 := Lib.hid (blk_put (cs := #[.int .i64 a0_0, .slice (some ad) l0_1.length c0_1]) (cs' := #[.int .i64 a0_0, .slice (some ⟨gm, 0, none⟩) l0_1.length cm]) hxw 1 (.slice (some ⟨gm, 0, none⟩) l0_1.length cm) rfl)
      have HZB2 := Lib.hid (blk_far (p := ⟨gx, 1, none⟩) hzw (fun h => HGX.out.1 h.symm) (.slice (some ⟨gm, 0, none⟩) l0_1.length cm))
      have HOX := Lib.hid (own_far (p := ⟨gx, 1, none⟩) hox (fun h => hgxm h.symm) (.slice (some ⟨gm, 0, none⟩) l0_1.length cm))
      have HGM := Lib.hid (show W7.heap.size ≤ gm from hgm)
      have HGN := Lib.hid (show gx ≠ gm ∧ gz ≠ gm ∧ Wd.heap.size ≤ gm ∧ W7.heap.size ≤ wx.heap.size from ⟨hgxm, hgzm, by omega, hwx.size⟩)
      have y1 : W7.cell? ⟨gy, 1, none⟩ = some (.slice (some ad) l0_1.length c0_1) := (blk_cell hQ7.y 1).trans rfl
      have hgy1 : gy < W7.heap.size := blk_lt hQ7.y
      have hgy2 : ¬ gy = W7.heap.size := by omega
      have x1 : wx.cell? ⟨gx, 1, none⟩ = some (.slice (some ad) l0_1.length c0_1) := (blk_cell hxw 1).trans rfl
      have x2 := blk_frozen hxw 1
      have HB5 := Lib.hid hbw4
      clear hcells hown0 hox hgr hnx hgm hgm2 hxw hzw hxlt hgxm hgzm hgx hwd hbw4 hQ7 hwx
      go_upto_region 12 with ((with_reducible refine gate_builtin (b := .append) (xs := #[.tmp 98, .tmp 100]) rfl ?_); at_builtin; refine append_run rfl (.tmp 98) (.tmp 100) 22 rfl _ _ _ wx rfl rfl hap ?_)
      clear y1 x1 x2 hap HXB HZB HWB hgy1 hgy2
      have HXB := HXB2
      have HZB := HZB2
      have HWB := HB5
      clear HXB2 HZB2 HB5
      generalize wx.setCell ⟨gx, 1, none⟩ (.slice (some ⟨gm, 0, none⟩) l0_1.length cm) = W8 at *
      have x1 : W8.cell? ⟨gx, 1, none⟩ = some (.slice (some ⟨gm, 0, none⟩) l0_1.length cm) := (blk_cell HXB.out 1).trans rfl
      go_upto_region 13 with (fail)
      clear x1
      have hmk := HY.out.mv l0_1[k] (List.getElem_mem hk1)
      obtain ⟨lo, elo⟩ : ∃ x, l0_1[k].f2.f0 = x := ⟨_, rfl⟩
      obtain ⟨hi, ehi⟩ : ∃ x, l0_1[k].f2.f1 = x := ⟨_, rfl⟩
      have c2 := own_cell HOX.out k 2 hk1 (by omega)
      have c3 := own_cell HOX.out k 3 hk1 (by omega)
      obtain ⟨c2, c2f⟩ := c2
      obtain ⟨c3, c3f⟩ := c3
      replace c2 : W8.cell? ⟨gm, k * 4 + 2, none⟩ = some (.int .i64 lo) := by rw [c2, ← elo]; rfl
      replace c3 : W8.cell? ⟨gm, k * 4 + 3, none⟩ = some (.int .i64 hi) := by rw [c3, ← ehi]; rfl
      have HC2 := Lib.hid c2
      have HC3 := Lib.hid c3
      have HM := Lib.hid (show l0_1[k].f2.f0 = lo ∧ l0_1[k].f2.f1 = hi from ⟨elo, ehi⟩)
      have hlo0 : 0 ≤ lo := by omega
      have hlo1 : lo ≤ hi := by omega
      have hhi1 : hi ≤ 100000 := by omega
      clear hmk elo ehi c2 c3 c2f c3f
      obtain ⟨h40, h41⟩ := h4
      obtain ⟨h50, h51⟩ := h5
      obtain ⟨We, ed⟩ : ∃ Wd, W8.drew = Wd := ⟨_, rfl⟩
      have hlbl := (HQ.out.below HWB.out).lb
      refine start_ (n := 17) (S := fun w' => w'.cell? ⟨gm, k * 4 + 2, none⟩ = some (.int .i64 lo) ∧ w'.cell? ⟨gm, k * 4 + 3, none⟩ = some (.int .i64 hi) ∧ w'.cell? ⟨gm, k * 4 + 2 + 1, none⟩ = some (.int .i64 hi) ∧ w'.cell? ⟨gl, 0, none⟩ = some (.int .u32 b0)) (ds := [16]) #[false, false, false, false, false, false, false, false, false, false, false, false, false, false, false, false, false] (by kernel_rfl) rfl rfl (⟨HC2.out, HC3.out, HC3.out, (blk_cell hlbl 0).trans rfl⟩) (fun hHeld => ?_); refine with_tabW forecourtlaw05_TaintLater.tab13 forecourtlaw05_TaintLater.bits13 (fun HT_ HW_ => ?_)
      refine pure_ (i := 0) (N := some 108) (v := ?_) (a' := ?_) #[true, false, false, false, false, false, false, false, false, false, false, false, false, false, false, false, false] rfl rfl (any_of HT_.out (by kernel_rfl)) (fun _ _ _ h => h) (Or.inl ⟨by rfl, ?_⟩) ?_ ?_
      rotate_left
      · intro w'
        go_simp
        with_reducible rfl
      rotate_left
      · simp only [Act.put, List.setIfInBounds_toArray, List.set_cons_zero, List.set_cons_succ, i64_w, i32_w]
        rfl
      refine pure_ (i := 1) (N := some 109) (v := ?_) (a' := ?_) #[true, true, false, false, false, false, false, false, false, false, false, false, false, false, false, false, false] rfl rfl (any_of HT_.out (by kernel_rfl)) (fun _ _ _ h => h) (Or.inl ⟨by rfl, ?_⟩) ?_ ?_
      rotate_left
      · intro w'
        go_simp
        with_reducible rfl
      rotate_left
      · simp only [Act.put, List.setIfInBounds_toArray, List.set_cons_zero, List.set_cons_succ, i64_w, i32_w]
        rfl
      refine pure_ (i := 2) (N := some 110) (v := ?_) (a' := ?_) #[true, true, true, false, false, false, false, false, false, false, false, false, false, false, false, false, false] rfl rfl (any_of HT_.out (by kernel_rfl)) (fun _ _ _ h => h) (Or.inl ⟨by rfl, ?_⟩) ?_ ?_
      rotate_left
      · intro w'
        go_simp
        with_reducible rfl
      rotate_left
      · simp only [Act.put, List.setIfInBounds_toArray, List.set_cons_zero, List.set_cons_succ, i64_w, i32_w]
        rfl
      refine pure_ (i := 3) (N := some 111) (v := ?_) (a' := ?_) #[true, true, true, true, false, false, false, false, false, false, false, false, false, false, false, false, false] rfl rfl (any_of HT_.out (by kernel_rfl)) (fun _ _ _ h => h) (Or.inl ⟨by rfl, ?_⟩) ?_ ?_
      rotate_left
      · intro w'
        go_simp
        with_reducible rfl
      rotate_left
      · simp only [Act.put, List.setIfInBounds_toArray, List.set_cons_zero, List.set_cons_succ, i64_w, i32_w]
        rfl
      refine pure_ (i := 5) (N := some 113) (v := ?_) (a' := ?_) #[true, true, true, true, false, true, false, false, false, false, false, false, false, false, false, false, false] rfl rfl (any_of HT_.out (by kernel_rfl)) (fun _ _ _ h => h) (Or.inl ⟨by rfl, ?_⟩) ?_ ?_
      rotate_left
      · intro w'
        go_simp
        with_reducible rfl
      rotate_left
      · simp only [Act.put, List.setIfInBounds_toArray, List.set_cons_zero, List.set_cons_succ, i64_w, i32_w]
        rfl
      refine pure_ (i := 6) (N := some 114) (v := ?_) (a' := ?_) #[true, true, true, true, false, true, true, false, false, false, false, false, false, false, false, false, false] rfl rfl (any_of HT_.out (by kernel_rfl)) (fun _ _ _ h => h) (Or.inl ⟨by rfl, ?_⟩) ?_ ?_
      rotate_left
      · intro w'
        go_simp
        with_reducible rfl
      rotate_left
      · simp only [Act.put, List.setIfInBounds_toArray, List.set_cons_zero, List.set_cons_succ, i64_w, i32_w]
        rfl
      refine pure_ (i := 7) (N := some 115) (v := ?_) (a' := ?_) #[true, true, true, true, false, true, true, true, false, false, false, false, false, false, false, false, false] rfl rfl (any_of HT_.out (by kernel_rfl)) (fun _ _ _ h => h) (Or.inl ⟨by rfl, ?_⟩) ?_ ?_
      rotate_left
      · intro w'
        go_simp
        with_reducible rfl
      rotate_left
      · simp only [Act.put, List.setIfInBounds_toArray, List.set_cons_zero, List.set_cons_succ, i64_w, i32_w]
        rfl
      refine pure_ (i := 9) (N := some 117) (v := ?_) (a' := ?_) #[true, true, true, true, false, true, true, true, false, true, false, false, false, false, false, false, false] rfl rfl (any_of HT_.out (by kernel_rfl)) (fun _ _ _ h => h) (Or.inl ⟨by rfl, ?_⟩) ?_ ?_
      rotate_left
      · intro w'
        go_simp
        with_reducible rfl
      rotate_left
      · simp only [Act.put, List.setIfInBounds_toArray, List.set_cons_zero, List.set_cons_succ, i64_w, i32_w]
        rfl
      refine take_ (i := 4) (N := some 112) (v := ?_) (a' := ?_) #[true, true, true, true, true, true, true, true, false, true, false, false, false, false, false, false, false] rfl rfl (take_ofW HT_.out HW_.out (by kernel_rfl)) (fun _ _ _ h => h) (Or.inl ⟨by rfl, ?_⟩) hHeld ?_ ?_
      rotate_left
      · rintro w' ⟨s0, s1, s2, s3⟩
        go_simp
        with_reducible rfl
      rotate_left
      · simp only [Act.put, List.setIfInBounds_toArray, List.set_cons_zero, List.set_cons_succ, i64_w, i32_w]
        rfl
      refine take_ (i := 8) (N := some 116) (v := ?_) (a' := ?_) #[true, true, true, true, true, true, true, true, true, true, false, false, false, false, false, false, false] rfl rfl (take_ofW HT_.out HW_.out (by kernel_rfl)) (fun _ _ _ h => h) (Or.inl ⟨by rfl, ?_⟩) hHeld ?_ ?_
      rotate_left
      · rintro w' ⟨s0, s1, s2, s3⟩
        go_simp
        with_reducible rfl
      rotate_left
      · simp only [Act.put, List.setIfInBounds_toArray, List.set_cons_zero, List.set_cons_succ, i64_w, i32_w]
        rfl
      refine take_ (i := 10) (N := some 118) (v := ?_) (a' := ?_) #[true, true, true, true, true, true, true, true, true, true, true, false, false, false, false, false, false] rfl rfl (take_ofW HT_.out HW_.out (by kernel_rfl)) (fun _ _ _ h => h) (Or.inl ⟨by rfl, ?_⟩) hHeld ?_ ?_
      rotate_left
      · rintro w' ⟨s0, s1, s2, s3⟩
        go_simp
        with_reducible rfl
      rotate_left
      · simp only [Act.put, List.setIfInBounds_toArray, List.set_cons_zero, List.set_cons_succ, i64_w, i32_w]
        rfl
      refine pure_ (i := 11) (N := some 119) (v := ?_) (a' := ?_) #[true, true, true, true, true, true, true, true, true, true, true, true, false, false, false, false, false] rfl rfl (any_of HT_.out (by kernel_rfl)) (fun _ _ _ h => h) (Or.inl ⟨by rfl, ?_⟩) ?_ ?_
      rotate_left
      · intro w'
        go_simp
        with_reducible rfl
      rotate_left
      · simp only [Act.put, List.setIfInBounds_toArray, List.set_cons_zero, List.set_cons_succ, i64_w, i32_w]
        rfl
      refine pure_ (i := 12) (N := some 120) (v := ?_) (a' := ?_) #[true, true, true, true, true, true, true, true, true, true, true, true, true, false, false, false, false] rfl rfl (any_of HT_.out (by kernel_rfl)) (fun _ _ _ h => h) (Or.inl ⟨by rfl, ?_⟩) ?_ ?_
      rotate_left
      · intro w'
        go_simp
        with_reducible rfl
      rotate_left
      · simp only [Act.put, List.setIfInBounds_toArray, List.set_cons_zero, List.set_cons_succ, i64_w, i32_w]
        rfl
      refine pure_ (i := 13) (N := some 121) (v := ?_) (a' := ?_) #[true, true, true, true, true, true, true, true, true, true, true, true, true, true, false, false, false] rfl rfl (any_of HT_.out (by kernel_rfl)) (fun _ _ _ h => h) (Or.inl ⟨by rfl, ?_⟩) ?_ ?_
      rotate_left
      · intro w'
        go_simp
        with_reducible rfl
      rotate_left
      · simp only [Act.put, List.setIfInBounds_toArray, List.set_cons_zero, List.set_cons_succ, i64_w, i32_w]
        rfl
      refine pure_ (i := 14) (N := some 122) (v := ?_) (a' := ?_) #[true, true, true, true, true, true, true, true, true, true, true, true, true, true, true, false, false] rfl rfl (any_of HT_.out (by kernel_rfl)) (fun _ _ _ h => h) (Or.inl ⟨by rfl, ?_⟩) ?_ ?_
      rotate_left
      · intro w'
        go_simp
        with_reducible rfl
      rotate_left
      · simp only [Act.put, List.setIfInBounds_toArray, List.set_cons_zero, List.set_cons_succ, i64_w, i32_w]
        rfl
      refine pure_ (i := 15) (N := some 123) (v := ?_) (a' := ?_) #[true, true, true, true, true, true, true, true, true, true, true, true, true, true, true, true, false] rfl rfl (any_of HT_.out (by kernel_rfl)) (fun _ _ _ h => h) (Or.inl ⟨by rfl, ?_⟩) ?_ ?_
      rotate_left
      · intro w'
        go_simp
        with_reducible rfl
      rotate_left
      · simp only [Act.put, List.setIfInBounds_toArray, List.set_cons_zero, List.set_cons_succ, i64_w, i32_w]
        rfl
      refine last_ (i := 16) (N := none) #[true, true, true, true, true, true, true, true, true, true, true, true, true, true, true, true, true] rfl rfl (one_of HT_.out (by kernel_rfl)) (by decide) (fun K hK => ?_)
      have hw1 : wrap64 (lo + wrap64 b0) = lo + b0 := by rw [wrap_ok b0 (by omega) (by omega), wrap_ok _ (by omega) (by omega)]
      obtain ⟨lo2, elo2⟩ : ∃ x, min hi (lo + b0) = x := ⟨_, rfl⟩
      have hl20 : lo ≤ lo2 := by omega
      have hl21 : lo2 ≤ hi := by omega
      have e0 : We.cell? ⟨gm, k * 4 + 2, none⟩ = some (.int .i64 lo) := by rw [← ed]; exact HC2.out
      have e1 : We.frozen? ⟨gm, k * 4 + 2, none⟩ = false := by rw [← ed]; exact (own_cell HOX.out k 2 hk1 (by omega)).2
      rw [ed] at hHeld ⊢
      refine skip_ (w1 := We.setCell ⟨gm, k * 4 + 2, none⟩ (.int .i64 lo2)) (by rfl) rfl ?_ ?_
      · go_simp
      have hWe : Below W8.heap.size W8 We := by rw [← ed]; exact below_drew (Below.refl _ _)
      have HWB2 := Lib.hid (below_set (j := k * 4 + 2) (v := .int .i64 lo2) (below_then HWB.out HWB.out.size hWe) HGN.out.2.2.1)
      have hs2 : cellsM1 (⟨l0_1[k].f0, l0_1[k].f1, ⟨lo2, hi⟩⟩ : S58) = (cellsM1 l0_1[k]).set 2 (.int .i64 lo2) := by rw [← HM.out.2]; rfl
      have hoe := own_set (own_below HOX.out hWe) k 2 hk1 (by omega) (.int .i64 lo2) (⟨l0_1[k].f0, l0_1[k].f1, ⟨lo2, hi⟩⟩ : S58) hs2
      have hg0 := HGN.out.2.2.1
      have hc2 : (We.setCell ⟨gm, k * 4 + 2, none⟩ (.int .i64 lo2)).cell? ⟨gl, 1, none⟩ = some (.int .u32 b1) := (blk_cell (blk_far (p := ⟨gm, k * 4 + 2, none⟩) (blk_below hlbl hWe) (by have := blk_lt HQ.out.lb; show gl ≠ gm; omega) (.int .i64 lo2)) 1).trans rfl
      have d2 : (We.setCell ⟨gm, k * 4 + 2, none⟩ (.int .i64 lo2)).cell? ⟨gm, k * 4 + 2, none⟩ = some (.int .i64 lo2) := by
        have := (own_cell hoe k 2 (by rw [List.length_set]; exact hk1) (by omega)).1
        rw [this, List.getElem_set_self]
        rfl
      have d3 : (We.setCell ⟨gm, k * 4 + 2, none⟩ (.int .i64 lo2)).cell? ⟨gm, k * 4 + 3, none⟩ = some (.int .i64 hi) := by
        have := (own_cell hoe k 3 (by rw [List.length_set]; exact hk1) (by omega)).1
        rw [this, List.getElem_set_self]
        rfl
      refine hK.out _ _ ?_
      clear hK K
      refine done_ (done_of HT_.out (by kernel_rfl)) ?_
      have HM2 := Lib.hid (show min l0_1[k].f2.f1 (l0_1[k].f2.f0 + b0) = lo2 from by rw [HM.out.1, HM.out.2]; exact elo2)
      have HOY := Lib.hid hoe
      have HXB2 := Lib.hid (blk_far (p := ⟨gm, k * 4 + 2, none⟩) (blk_below HXB.out hWe) HGN.out.1 (.int .i64 lo2))
      have HZB2 := Lib.hid (blk_far (p := ⟨gm, k * 4 + 2, none⟩) (blk_below HZB.out hWe) HGN.out.2.1 (.int .i64 lo2))
      have HD2 := Lib.hid d2
      have HD3 := Lib.hid d3
      have HL2 := Lib.hid hc2
      clear HXB HZB HWB HOX HC2 HC3 hw1 hlo0 hlo1 e0 e1 hHeld HT_ HW_ hWe hs2 hoe hg0 hc2 d2 d3 hlbl elo2
      have HXB := HXB2
      have HZB := HZB2
      have HWB := HWB2
      clear HXB2 HZB2 HWB2
      generalize We.setCell ⟨gm, k * 4 + 2, none⟩ (.int .i64 lo2) = W9 at *
      go_upto_region 14 with (fail)
      clear hl20 hl21
      have hl0 : 0 ≤ lo2 := by have := HM2.out; have := HM.out.1; have := (HY.out.mv l0_1[k] (List.getElem_mem hk1)).2.2.2.2.2; omega
      have hl1 : lo2 ≤ hi := by have := HM2.out; have := HM.out.2; omega
      obtain ⟨Wf, ed⟩ : ∃ Wd, W9.drew = Wd := ⟨_, rfl⟩
      refine start_ (n := 17) (S := fun w' => w'.cell? ⟨gm, k * 4 + 2, none⟩ = some (.int .i64 lo2) ∧ w'.cell? ⟨gm, k * 4 + 3, none⟩ = some (.int .i64 hi) ∧ w'.cell? ⟨gm, k * 4 + 2 + 1, none⟩ = some (.int .i64 hi) ∧ w'.cell? ⟨gl, 1, none⟩ = some (.int .u32 b1)) (ds := [16]) #[false, false, false, false, false, false, false, false, false, false, false, false, false, false, false, false, false] (by kernel_rfl) rfl rfl (⟨HD2.out, HD3.out, HD3.out, HL2.out⟩) (fun hHeld => ?_); refine with_tabW forecourtlaw05_TaintLater.tab14 forecourtlaw05_TaintLater.bits14 (fun HT_ HW_ => ?_)
      refine pure_ (i := 0) (N := some 124) (v := ?_) (a' := ?_) #[true, false, false, false, false, false, false, false, false, false, false, false, false, false, false, false, false] rfl rfl (any_of HT_.out (by kernel_rfl)) (fun _ _ _ h => h) (Or.inl ⟨by rfl, ?_⟩) ?_ ?_
      rotate_left
      · intro w'
        go_simp
        with_reducible rfl
      rotate_left
      · simp only [Act.put, List.setIfInBounds_toArray, List.set_cons_zero, List.set_cons_succ, i64_w, i32_w]
        rfl
      refine pure_ (i := 1) (N := some 125) (v := ?_) (a' := ?_) #[true, true, false, false, false, false, false, false, false, false, false, false, false, false, false, false, false] rfl rfl (any_of HT_.out (by kernel_rfl)) (fun _ _ _ h => h) (Or.inl ⟨by rfl, ?_⟩) ?_ ?_
      rotate_left
      · intro w'
        go_simp
        with_reducible rfl
      rotate_left
      · simp only [Act.put, List.setIfInBounds_toArray, List.set_cons_zero, List.set_cons_succ, i64_w, i32_w]
        rfl
      refine pure_ (i := 2) (N := some 126) (v := ?_) (a' := ?_) #[true, true, true, false, false, false, false, false, false, false, false, false, false, false, false, false, false] rfl rfl (any_of HT_.out (by kernel_rfl)) (fun _ _ _ h => h) (Or.inl ⟨by rfl, ?_⟩) ?_ ?_
      rotate_left
      · intro w'
        go_simp
        with_reducible rfl
      rotate_left
      · simp only [Act.put, List.setIfInBounds_toArray, List.set_cons_zero, List.set_cons_succ, i64_w, i32_w]
        rfl
      refine pure_ (i := 3) (N := some 127) (v := ?_) (a' := ?_) #[true, true, true, true, false, false, false, false, false, false, false, false, false, false, false, false, false] rfl rfl (any_of HT_.out (by kernel_rfl)) (fun _ _ _ h => h) (Or.inl ⟨by rfl, ?_⟩) ?_ ?_
      rotate_left
      · intro w'
        go_simp
        with_reducible rfl
      rotate_left
      · simp only [Act.put, List.setIfInBounds_toArray, List.set_cons_zero, List.set_cons_succ, i64_w, i32_w]
        rfl
      refine pure_ (i := 5) (N := some 129) (v := ?_) (a' := ?_) #[true, true, true, true, false, true, false, false, false, false, false, false, false, false, false, false, false] rfl rfl (any_of HT_.out (by kernel_rfl)) (fun _ _ _ h => h) (Or.inl ⟨by rfl, ?_⟩) ?_ ?_
      rotate_left
      · intro w'
        go_simp
        with_reducible rfl
      rotate_left
      · simp only [Act.put, List.setIfInBounds_toArray, List.set_cons_zero, List.set_cons_succ, i64_w, i32_w]
        rfl
      refine pure_ (i := 6) (N := some 130) (v := ?_) (a' := ?_) #[true, true, true, true, false, true, true, false, false, false, false, false, false, false, false, false, false] rfl rfl (any_of HT_.out (by kernel_rfl)) (fun _ _ _ h => h) (Or.inl ⟨by rfl, ?_⟩) ?_ ?_
      rotate_left
      · intro w'
        go_simp
        with_reducible rfl
      rotate_left
      · simp only [Act.put, List.setIfInBounds_toArray, List.set_cons_zero, List.set_cons_succ, i64_w, i32_w]
        rfl
      refine pure_ (i := 7) (N := some 131) (v := ?_) (a' := ?_) #[true, true, true, true, false, true, true, true, false, false, false, false, false, false, false, false, false] rfl rfl (any_of HT_.out (by kernel_rfl)) (fun _ _ _ h => h) (Or.inl ⟨by rfl, ?_⟩) ?_ ?_
      rotate_left
      · intro w'
        go_simp
        with_reducible rfl
      rotate_left
      · simp only [Act.put, List.setIfInBounds_toArray, List.set_cons_zero, List.set_cons_succ, i64_w, i32_w]
        rfl
      refine pure_ (i := 9) (N := some 133) (v := ?_) (a' := ?_) #[true, true, true, true, false, true, true, true, false, true, false, false, false, false, false, false, false] rfl rfl (any_of HT_.out (by kernel_rfl)) (fun _ _ _ h => h) (Or.inl ⟨by rfl, ?_⟩) ?_ ?_
      rotate_left
      · intro w'
        go_simp
        with_reducible rfl
      rotate_left
      · simp only [Act.put, List.setIfInBounds_toArray, List.set_cons_zero, List.set_cons_succ, i64_w, i32_w]
        rfl
      refine take_ (i := 4) (N := some 128) (v := ?_) (a' := ?_) #[true, true, true, true, true, true, true, true, false, true, false, false, false, false, false, false, false] rfl rfl (take_ofW HT_.out HW_.out (by kernel_rfl)) (fun _ _ _ h => h) (Or.inl ⟨by rfl, ?_⟩) hHeld ?_ ?_
      rotate_left
      · rintro w' ⟨s0, s1, s2, s3⟩
        go_simp
        with_reducible rfl
      rotate_left
      · simp only [Act.put, List.setIfInBounds_toArray, List.set_cons_zero, List.set_cons_succ, i64_w, i32_w]
        rfl
      refine take_ (i := 8) (N := some 132) (v := ?_) (a' := ?_) #[true, true, true, true, true, true, true, true, true, true, false, false, false, false, false, false, false] rfl rfl (take_ofW HT_.out HW_.out (by kernel_rfl)) (fun _ _ _ h => h) (Or.inl ⟨by rfl, ?_⟩) hHeld ?_ ?_
      rotate_left
      · rintro w' ⟨s0, s1, s2, s3⟩
        go_simp
        with_reducible rfl
      rotate_left
      · simp only [Act.put, List.setIfInBounds_toArray, List.set_cons_zero, List.set_cons_succ, i64_w, i32_w]
        rfl
      refine take_ (i := 10) (N := some 134) (v := ?_) (a' := ?_) #[true, true, true, true, true, true, true, true, true, true, true, false, false, false, false, false, false] rfl rfl (take_ofW HT_.out HW_.out (by kernel_rfl)) (fun _ _ _ h => h) (Or.inl ⟨by rfl, ?_⟩) hHeld ?_ ?_
      rotate_left
      · rintro w' ⟨s0, s1, s2, s3⟩
        go_simp
        with_reducible rfl
      rotate_left
      · simp only [Act.put, List.setIfInBounds_toArray, List.set_cons_zero, List.set_cons_succ, i64_w, i32_w]
        rfl
      refine pure_ (i := 11) (N := some 135) (v := ?_) (a' := ?_) #[true, true, true, true, true, true, true, true, true, true, true, true, false, false, false, false, false] rfl rfl (any_of HT_.out (by kernel_rfl)) (fun _ _ _ h => h) (Or.inl ⟨by rfl, ?_⟩) ?_ ?_
      rotate_left
      · intro w'
        go_simp
        with_reducible rfl
      rotate_left
      · simp only [Act.put, List.setIfInBounds_toArray, List.set_cons_zero, List.set_cons_succ, i64_w, i32_w]
        rfl
      refine pure_ (i := 12) (N := some 136) (v := ?_) (a' := ?_) #[true, true, true, true, true, true, true, true, true, true, true, true, true, false, false, false, false] rfl rfl (any_of HT_.out (by kernel_rfl)) (fun _ _ _ h => h) (Or.inl ⟨by rfl, ?_⟩) ?_ ?_
      rotate_left
      · intro w'
        go_simp
        with_reducible rfl
      rotate_left
      · simp only [Act.put, List.setIfInBounds_toArray, List.set_cons_zero, List.set_cons_succ, i64_w, i32_w]
        rfl
      refine pure_ (i := 13) (N := some 137) (v := ?_) (a' := ?_) #[true, true, true, true, true, true, true, true, true, true, true, true, true, true, false, false, false] rfl rfl (any_of HT_.out (by kernel_rfl)) (fun _ _ _ h => h) (Or.inl ⟨by rfl, ?_⟩) ?_ ?_
      rotate_left
      · intro w'
        go_simp
        with_reducible rfl
      rotate_left
      · simp only [Act.put, List.setIfInBounds_toArray, List.set_cons_zero, List.set_cons_succ, i64_w, i32_w]
        rfl
      refine pure_ (i := 14) (N := some 138) (v := ?_) (a' := ?_) #[true, true, true, true, true, true, true, true, true, true, true, true, true, true, true, false, false] rfl rfl (any_of HT_.out (by kernel_rfl)) (fun _ _ _ h => h) (Or.inl ⟨by rfl, ?_⟩) ?_ ?_
      rotate_left
      · intro w'
        go_simp
        with_reducible rfl
      rotate_left
      · simp only [Act.put, List.setIfInBounds_toArray, List.set_cons_zero, List.set_cons_succ, i64_w, i32_w]
        rfl
      refine pure_ (i := 15) (N := some 139) (v := ?_) (a' := ?_) #[true, true, true, true, true, true, true, true, true, true, true, true, true, true, true, true, false] rfl rfl (any_of HT_.out (by kernel_rfl)) (fun _ _ _ h => h) (Or.inl ⟨by rfl, ?_⟩) ?_ ?_
      rotate_left
      · intro w'
        go_simp
        with_reducible rfl
      rotate_left
      · simp only [Act.put, List.setIfInBounds_toArray, List.set_cons_zero, List.set_cons_succ, i64_w, i32_w]
        rfl
      refine last_ (i := 16) (N := none) #[true, true, true, true, true, true, true, true, true, true, true, true, true, true, true, true, true] rfl rfl (one_of HT_.out (by kernel_rfl)) (by decide) (fun K hK => ?_)
      have hw1 : wrap64 (hi - wrap64 b1) = hi - b1 := by rw [wrap_ok b1 (by omega) (by omega), wrap_ok _ (by omega) (by omega)]
      obtain ⟨hi2, ehi2⟩ : ∃ x, max lo2 (hi - b1) = x := ⟨_, rfl⟩
      have e0 : Wf.cell? ⟨gm, k * 4 + 3, none⟩ = some (.int .i64 hi) := by rw [← ed]; exact HD3.out
      have e1 : Wf.frozen? ⟨gm, k * 4 + 3, none⟩ = false := by rw [← ed]; exact (own_cell HOY.out k 3 (by rw [List.length_set]; exact hk1) (by omega)).2
      rw [ed] at hHeld ⊢
      refine skip_ (w1 := Wf.setCell ⟨gm, k * 4 + 3, none⟩ (.int .i64 hi2)) (by rfl) rfl ?_ ?_
      · go_simp
      have hWf : Below W9.heap.size W9 Wf := by rw [← ed]; exact below_drew (Below.refl _ _)
      have HWB2 := Lib.hid (below_set (j := k * 4 + 3) (v := .int .i64 hi2) (below_then HWB.out HWB.out.size hWf) HGN.out.2.2.1)
      have hx2 : narM l0_1[k] b0 b1 = (⟨l0_1[k].f0, l0_1[k].f1, ⟨lo2, hi2⟩⟩ : S58) := by
        unfold narM
        rw [HM2.out, HM.out.2, ehi2]
      have hoe := own_set (own_below HOY.out hWf) k 3 (by rw [List.length_set]; exact hk1) (by omega) (.int .i64 hi2) (narM l0_1[k] b0 b1) (by rw [hx2, List.getElem_set_self]; rfl)
      rw [List.set_set] at hoe
      refine hK.out _ _ ?_
      clear hK K
      refine done_ (done_of HT_.out (by kernel_rfl)) ?_
      have HXB2 := Lib.hid (blk_far (p := ⟨gm, k * 4 + 3, none⟩) (blk_below HXB.out hWf) HGN.out.1 (.int .i64 hi2))
      have HZB2 := Lib.hid (blk_far (p := ⟨gm, k * 4 + 3, none⟩) (blk_below HZB.out hWf) HGN.out.2.1 (.int .i64 hi2))
      have HOX := Lib.hid hoe
      clear HXB HZB HWB HOY HD2 HD3 HL2 hw1 hl0 hl1 e0 e1 hHeld HT_ HW_ hWf hx2 hoe ehi2 hhi1 HM HM2 h40 h41 h50 h51
      have HXB := HXB2
      have HZB := HZB2
      have HWB := HWB2
      clear HXB2 HZB2 HWB2
      generalize Wf.setCell ⟨gm, k * 4 + 3, none⟩ (.int .i64 hi2) = W10 at *
      have hxl : (l0_1.set k (narM l0_1[k] b0 b1)).length = l0_1.length := List.length_set
      rw [show l0_1.length = (l0_1.set k (narM l0_1[k] b0 b1)).length from hxl.symm] at HXB
      obtain ⟨xl, exl⟩ : ∃ xl, l0_1.set k (narM l0_1[k] b0 b1) = xl := ⟨_, rfl⟩
      go_upto_region 15 with (fail)
      obtain ⟨Wg, ed⟩ : ∃ Wd, W10.drew = Wd := ⟨_, rfl⟩
      have hWg : Below W10.heap.size W10 Wg := by rw [← ed]; exact below_drew (Below.refl _ _)
      have hkc1 : k ≤ c0_1 := by omega
      have hkc2 : (k : Int) ≤ (c0_1 : Int) := by omega
      have hkc3 : (k : Int) ≤ (l0_1.length : Int) := by omega
      have hkl1 : k + 1 ≤ l0_1.length := by omega
      have hkl2 : (k : Int) + 1 ≤ (l0_1.length : Int) := by omega
      have hkl3 : 0 ≤ (k : Int) + 1 := by omega
      have hkl4 : (k : Int) + 1 ≤ (c0_1 : Int) := by omega
      have htk : (l0_1.take k).length = k := by rw [List.length_take]; omega
      have hdr : (l0_1.drop (k + 1)).length = l0_1.length - (k + 1) := List.length_drop
      obtain ⟨ade, eade, hcl⟩ := C_cells (HQ.out.below HWB.out).C hlp
      cases eade
      obtain ⟨ad2, hsel, hcl2⟩ : ∃ ad2, (if c0_1 = k + 1 then some ad else some (ad.add ((k + 1) * 4))) = some ad2 ∧ ∀ j u, (cellsM (l0_1.drop (k + 1)))[j]? = some u → W10.cell? (ad2.add j) = some u := by
        by_cases hck : c0_1 = k + 1
        · refine ⟨ad, by rw [if_pos hck], fun j u hu => ?_⟩
          have := (List.getElem?_eq_some_iff.1 hu).1
          rw [cellsM_len, hdr] at this
          omega
        · refine ⟨ad.add ((k + 1) * 4), by rw [if_neg hck], fun j u hu => ?_⟩
          have e : (cellsM l0_1)[(k + 1) * 4 + j]? = some u := by
            have e2 : cellsM l0_1 = cellsM (l0_1.take (k + 1)) ++ cellsM (l0_1.drop (k + 1)) := by rw [← cellsM_append, List.take_append_drop]
            have e3 : (cellsM (l0_1.take (k + 1))).length = (k + 1) * 4 := by rw [cellsM_len, List.length_take]; omega
            rw [e2, List.getElem?_append_right (by omega), e3, Nat.add_sub_cancel_left]
            exact hu
          have := hcl _ _ e
          rw [Addr.add_add]
          exact this
      have hcl1 : ∀ j u, (cellsM (l0_1.take k))[j]? = some u → W10.cell? (ad.add j) = some u := fun j u hu => hcl j u (by
        have e2 : cellsM l0_1 = cellsM (l0_1.take k) ++ cellsM (l0_1.drop k) := by rw [← cellsM_append, List.take_append_drop]
        rw [e2, List.getElem?_append_left (List.getElem?_eq_some_iff.1 hu).1]
        exact hu)
      clear hcl
      have HCL1 := Lib.hid hcl1
      have HCL2 := Lib.hid hcl2
      have HTK := Lib.hid htk
      have HDR := Lib.hid hdr
      clear hcl1 hcl2 htk hdr
      have hw1 : wrap64 ((k : Int) + 1) = (k : Int) + 1 := wrap_ok _ (by omega) (by omega)
      refine start_ (n := 14) (S := fun w' => w'.cell? ⟨gy, 1, none⟩ = some (.slice (some ad) l0_1.length c0_1)) (ds := [13]) #[false, false, false, false, false, false, false, false, false, false, false, false, false, false] (by kernel_rfl) rfl rfl (by rw [ed]; exact (blk_cell (blk_below (HQ.out.below HWB.out).y hWg) 1).trans rfl) (fun hHeld => ?_); refine with_tabW forecourtlaw05_TaintLater.tab15 forecourtlaw05_TaintLater.bits15 (fun HT_ HW_ => ?_)
      rw [ed] at hHeld ⊢
      refine pure_ (i := 1) (N := some 141) (v := ?_) (a' := ?_) #[false, true, false, false, false, false, false, false, false, false, false, false, false, false] rfl rfl (any_of HT_.out (by kernel_rfl)) (fun _ _ _ h => h) (Or.inl ⟨by rfl, ?_⟩) ?_ ?_
      rotate_left
      · intro w'
        go_simp
        with_reducible rfl
      rotate_left
      · simp only [Act.put, List.setIfInBounds_toArray, List.set_cons_zero, List.set_cons_succ, i64_w, i32_w]
        rfl
      refine pure_ (i := 3) (N := some 143) (v := ?_) (a' := ?_) #[false, true, false, true, false, false, false, false, false, false, false, false, false, false] rfl rfl (any_of HT_.out (by kernel_rfl)) (fun _ _ _ h => h) (Or.inl ⟨by rfl, ?_⟩) ?_ ?_
      rotate_left
      · intro w'
        go_simp
        with_reducible rfl
      rotate_left
      · simp only [Act.put, List.setIfInBounds_toArray, List.set_cons_zero, List.set_cons_succ, i64_w, i32_w]
        rfl
      refine pure_ (i := 6) (N := some 146) (v := ?_) (a' := ?_) #[false, true, false, true, false, false, true, false, false, false, false, false, false, false] rfl rfl (any_of HT_.out (by kernel_rfl)) (fun _ _ _ h => h) (Or.inl ⟨by rfl, ?_⟩) ?_ ?_
      rotate_left
      · intro w'
        go_simp
        with_reducible rfl
      rotate_left
      · simp only [Act.put, List.setIfInBounds_toArray, List.set_cons_zero, List.set_cons_succ, i64_w, i32_w]
        rfl
      refine pure_ (i := 8) (N := some 148) (v := ?_) (a' := ?_) #[false, true, false, true, false, false, true, false, true, false, false, false, false, false] rfl rfl (any_of HT_.out (by kernel_rfl)) (fun _ _ _ h => h) (Or.inl ⟨by rfl, ?_⟩) ?_ ?_
      rotate_left
      · intro w'
        go_simp
        with_reducible rfl
      rotate_left
      · simp only [Act.put, List.setIfInBounds_toArray, List.set_cons_zero, List.set_cons_succ, i64_w, i32_w]
        rfl
      refine pure_ (i := 9) (N := some 149) (v := ?_) (a' := ?_) #[false, true, false, true, false, false, true, false, true, true, false, false, false, false] rfl rfl (any_of HT_.out (by kernel_rfl)) (fun _ _ _ h => h) (Or.inl ⟨by rfl, ?_⟩) ?_ ?_
      rotate_left
      · intro w'
        go_simp
        with_reducible rfl
      rotate_left
      · simp only [Act.put, List.setIfInBounds_toArray, List.set_cons_zero, List.set_cons_succ, i64_w, i32_w]
        rfl
      refine take_ (i := 2) (N := some 142) (v := ?_) (a' := ?_) #[false, true, true, true, false, false, true, false, true, true, false, false, false, false] rfl rfl (take_ofW HT_.out HW_.out (by kernel_rfl)) (fun _ _ _ h => h) (Or.inl ⟨by rfl, ?_⟩) hHeld ?_ ?_
      rotate_left
      · rintro w' s0
        go_simp
        with_reducible rfl
      rotate_left
      · simp only [Act.put, List.setIfInBounds_toArray, List.set_cons_zero, List.set_cons_succ, i64_w, i32_w]
        rfl
      refine take_ (i := 7) (N := some 147) (v := ?_) (a' := ?_) #[false, true, true, true, false, false, true, true, true, true, false, false, false, false] rfl rfl (take_ofW HT_.out HW_.out (by kernel_rfl)) (fun _ _ _ h => h) (Or.inl ⟨by rfl, ?_⟩) hHeld ?_ ?_
      rotate_left
      · rintro w' s0
        go_simp
        with_reducible rfl
      rotate_left
      · simp only [Act.put, List.setIfInBounds_toArray, List.set_cons_zero, List.set_cons_succ, i64_w, i32_w]
        rfl
      refine pure_ (i := 4) (N := some 144) (v := ?_) (a' := ?_) #[false, true, true, true, true, false, true, true, true, true, false, false, false, false] rfl rfl (any_of HT_.out (by kernel_rfl)) (fun _ _ _ h => h) (Or.inl ⟨by rfl, ?_⟩) ?_ ?_
      rotate_left
      · intro w'
        go_simp
        with_reducible rfl
      rotate_left
      · simp only [Act.put, List.setIfInBounds_toArray, List.set_cons_zero, List.set_cons_succ, i64_w, i32_w]
        rfl
      refine pure_ (i := 10) (N := some 150) (v := ?_) (a' := ?_) #[false, true, true, true, true, false, true, true, true, true, true, false, false, false] rfl rfl (any_of HT_.out (by kernel_rfl)) (fun _ _ _ h => h) (Or.inl ⟨by rfl, ?_⟩) ?_ ?_
      rotate_left
      · intro w'
        go_simp
        with_reducible rfl
      rotate_left
      · simp only [Act.put, List.setIfInBounds_toArray, List.set_cons_zero, List.set_cons_succ, i64_w, i32_w]
        rfl
      clear hsel hw1 hkc1 hkc2 hkc3 hkl1 hkl2 hkl3 hkl4
      refine one_ (i := 0) (N := some 140) #[true, true, true, true, true, false, true, true, true, true, true, false, false, false] rfl rfl (one_of HT_.out (by kernel_rfl)) (by decide) (fun K hK => ?_)
      refine event_step (by rfl) (w1 := Wg.alloc (.cells #[] 58)) (v := .slice (some ⟨Wg.heap.size, 0, none⟩) 0 0) (by go_simp) ?_
      have hWh : Below W10.heap.size W10 (Wg.alloc (.cells #[] 58)) := below_then hWg hWg.size (below_alloc (Below.refl _ _) (.cells #[] 58))
      refine hK.out _ _ ((blk_cell (blk_below (HQ.out.below HWB.out).y hWh) 1).trans rfl) (fun hHeld => ?_)
      clear hK K
      refine norm_ (a' := ?_) ?_ ?_
      rotate_left
      · show Act.put _ (some 140) _ = _
        simp only [Act.put, List.setIfInBounds_toArray, List.set_cons_zero, List.set_cons_succ, i64_w, i32_w]
        rfl
      have hown0 : (Wg.alloc (.cells #[] 58)).ownsRow Wg.heap.size 58 4 (.slice (some ⟨Wg.heap.size, 0, none⟩) 0 0) ([] : List S58).length (cellsM []) := ⟨rfl, .inr ⟨_, 0, #[], rfl, Nat.le_refl _, blk_new _ _, Nat.le_refl _, by decide, rfl, rfl⟩⟩
      obtain ⟨v1, wz1, hap1, ho1, hg1, hne1⟩ := app58 hown0 ad c0_1 (l0_1.take k) (fun j u hu => cell_in hWh (HCL1.out j u hu)) (by rw [HTK.out]; simp; omega) (by simp)
      obtain ⟨g1, c1, e1, hg1a, hg1b⟩ := own_form ho1 (by rw [Ne, hne1]; rintro ⟨h, _⟩; cases h)
      rw [List.nil_append, HTK.out] at e1
      subst e1
      have hw1 : Below W10.heap.size W10 wz1 := below_grown hWh hg1 (fun r hr => by have := hWg.size; simp [Value.ownBlock] at hr; omega)
      obtain ⟨v2, wz2, hap2, ho2, hg2, hne2⟩ := app58 ho1 ad2 (c0_1 - (k + 1)) (l0_1.drop (k + 1)) (fun j u hu => cell_in hw1 (HCL2.out j u hu)) (by rw [List.nil_append, HTK.out, HDR.out]; omega) (by omega)
      obtain ⟨g2, c2, e2, hg2a, hg2b⟩ := own_form ho2 (by rw [Ne, hne2]; rintro ⟨h, _⟩; cases h)
      subst e2
      have hw2 : Below W10.heap.size W10 wz2 := below_grown hw1 hg2 (fun r hr => by have := hWg.size; simp [Value.ownBlock] at hr; omega)
      rw [HTK.out] at hap1
      rw [HDR.out] at hap2
      rw [List.nil_append] at ho2 hap2
      obtain ⟨zl, ezl⟩ : ∃ zl, l0_1.take k ++ l0_1.drop (k + 1) = zl := ⟨_, rfl⟩
      rw [ezl] at ho2 hap2 I2
      have hzlen : zl.length = l0_1.length - 1 := by rw [← ezl, List.length_append, HTK.out, HDR.out]; omega
      refine one_ (i := 5) (N := some 145) #[true, true, true, true, true, true, true, true, true, true, true, false, false, false] rfl rfl (one_of HT_.out (by kernel_rfl)) (by decide) (fun K hK => ?_)
      refine append_step (by rfl) (.tmp 140) (.tmp 144) 22 rfl _ _ _ wz1 rfl rfl hap1 ?_
      refine hK.out _ _ ((blk_cell (blk_below (HQ.out.below HWB.out).y hw1) 1).trans rfl) (fun hHeld => ?_)
      clear hK K
      refine norm_ (a' := ?_) ?_ ?_
      rotate_left
      · show Act.put _ (some 145) _ = _
        simp only [Act.put, List.setIfInBounds_toArray, List.set_cons_zero, List.set_cons_succ, i64_w, i32_w]
        rfl
      refine one_ (i := 11) (N := some 151) #[true, true, true, true, true, true, true, true, true, true, true, true, false, false] rfl rfl (one_of HT_.out (by kernel_rfl)) (by decide) (fun K hK => ?_)
      refine append_step (by rfl) (.tmp 145) (.tmp 150) 22 rfl _ _ _ wz2 rfl rfl hap2 ?_
      refine hK.out _ _ ((blk_cell (blk_below (HQ.out.below HWB.out).y hw2) 1).trans rfl) (fun hHeld => ?_)
      clear hK K
      refine norm_ (a' := ?_) ?_ ?_
      rotate_left
      · show Act.put _ (some 151) _ = _
        simp only [Act.put, List.setIfInBounds_toArray, List.set_cons_zero, List.set_cons_succ, i64_w, i32_w]
        rfl
      refine pure_ (i := 12) (N := some 152) (v := ?_) (a' := ?_) #[true, true, true, true, true, true, true, true, true, true, true, true, true, false] rfl rfl (any_of HT_.out (by kernel_rfl)) (fun _ _ _ h => h) (Or.inl ⟨by rfl, ?_⟩) ?_ ?_
      rotate_left
      · intro w'
        go_simp
        with_reducible rfl
      rotate_left
      · simp only [Act.put, List.setIfInBounds_toArray, List.set_cons_zero, List.set_cons_succ, i64_w, i32_w]
        rfl
      refine last_ (i := 13) (N := none) #[true, true, true, true, true, true, true, true, true, true, true, true, true, true] rfl rfl (one_of HT_.out (by kernel_rfl)) (by decide) (fun K hK => ?_)
      have hz2 := blk_below HZB.out hw2
      have e0 : wz2.cell? ⟨gz, 1, none⟩ = some (.slice (some ad) l0_1.length c0_1) := (blk_cell hz2 1).trans rfl
      have e1 := blk_frozen hz2 1
      refine skip_ (w1 := wz2.setCell ⟨gz, 1, none⟩ (.slice (some ⟨g2, 0, none⟩) zl.length c2)) (by rfl) rfl ?_ ?_
      · go_simp
      refine hK.out _ _ ?_
      clear hK K
      refine done_ (done_of HT_.out (by kernel_rfl)) ?_
      have hzlt := blk_lt HZB.out
      have hws := hWg.size
      have HXB2 := Lib.hid (blk_far (p := ⟨gz, 1, none⟩) (blk_below HXB.out hw2) HGX.out.1 (.slice (some ⟨g2, 0, none⟩) zl.length c2))
      have HZB2 := Lib.hid (blk_put (cs := #[.int .i64 a0_0, .slice (some ad) l0_1.length c0_1]) (cs' := #[.int .i64 a0_0, .slice (some ⟨g2, 0, none⟩) zl.length c2]) hz2 1 (.slice (some ⟨g2, 0, none⟩) zl.length c2) rfl)
      have HOZ := Lib.hid (own_far (p := ⟨gz, 1, none⟩) ho2 (by show g2 ≠ gz; omega) (.slice (some ⟨g2, 0, none⟩) zl.length c2))
      rw [exl] at HOX I1 HSX HXB2 hxl
      have hox := HOX.out
      rw [hxl] at hox
      have HOX2 := Lib.hid (own_far (p := ⟨gz, 1, none⟩) (own_below hox hw2) (fun h => HGN.out.2.1 h.symm) (.slice (some ⟨g2, 0, none⟩) zl.length c2))
      have HB := Lib.hid (below_set (j := 1) (v := .slice (some ⟨g2, 0, none⟩) zl.length c2) (below_then HWB.out HWB.out.size hw2) HGX.out.2.2)
      clear e0 e1 hz2 hzlt hws hHeld HT_ HW_ hap1 hap2 ho1 ho2 hg1 hg2 hne1 hne2 hw1 hw2 hg1a hg1b hg2a hg2b hown0 hWh hWg HXB HZB HWB HOX HCL1 HCL2 HTK HDR hox
      replace HQ := Lib.hid (HQ.out.below HB.out)
      replace HA := Lib.hid (HA.out.below HB.out)
      replace HC := Lib.hid (HC.out.below HB.out)
      replace HU := Lib.hid (HU.out.below HB.out)
      replace HLB := Lib.hid (blk_below HLB.out HB.out)
      clear HB
      generalize wz2.setCell ⟨gz, 1, none⟩ (.slice (some ⟨g2, 0, none⟩) zl.length c2) = W11 at *
      have hoz := HOZ.out
      have hox := HOX2.out
      rw [← hxl] at hox
      obtain ⟨Az, cz, ezv, hZr⟩ := own_C hoz
      obtain ⟨Ax, cx, exv, hXr⟩ := own_C hox
      rw [ezv] at HZB2
      rw [hxl] at exv hXr
      rw [hxl, exv] at HXB2
      have HXB := HXB2
      have HZB := HZB2
      have HX := Lib.hid hXr
      have HZ := Lib.hid hZr
      clear HXB2 HZB2 HOZ HOX2 hoz hox ezv exv hXr hZr HGX HGM HGN exl ezl
      go_upto_region 16 with (fail)
      rw [show l0_1.length = xl.length from hxl.symm] at HXB HX
      have HXL := Lib.hid hxl
      have HZL := Lib.hid hzlen
      clear hxl hzlen
      have y0 : W11.cell? ⟨gy, 0, none⟩ = some (.int .i64 a0_0) := (blk_cell HQ.out.y 0).trans rfl
      have y1 : W11.cell? ⟨gy, 1, none⟩ = some (.slice (some ad) l0_1.length c0_1) := (blk_cell HQ.out.y 1).trans rfl
      have x0 : W11.cell? ⟨gx, 0, none⟩ = some (.int .i64 a0_0) := (blk_cell HXB.out 0).trans rfl
      have x1 : W11.cell? ⟨gx, 1, none⟩ = some (.slice Ax xl.length cx) := (blk_cell HXB.out 1).trans rfl
      have z0 : W11.cell? ⟨gz, 0, none⟩ = some (.int .i64 a0_0) := (blk_cell HZB.out 0).trans rfl
      have z1 : W11.cell? ⟨gz, 1, none⟩ = some (.slice Az zl.length cz) := (blk_cell HZB.out 1).trans rfl
      have s0 : W11.cell? ⟨gs, 0, none⟩ = some (.int .i64 a1_0) := (blk_cell HQ.out.s 0).trans rfl
      have s1 : W11.cell? ⟨gs, 1, none⟩ = some (.int .i64 a1_1) := (blk_cell HQ.out.s 1).trans rfl
      have q0 : W11.cell? ⟨gq, 0, none⟩ = some (.int .i64 a1_0) := (blk_cell HLB.out 0).trans rfl
      have q1 : W11.cell? ⟨gq, 1, none⟩ = some (.int .i64 lt) := (blk_cell HLB.out 1).trans rfl
      have hxll : xl.length ≤ 1000 := by rw [HXL.out]; omega
      have hzll : zl.length ≤ 1000 := by rw [HZL.out]; omega
      go_upto_region 17 with (fail)
      clear y0 y1 x0 x1 z0 z1 s0 s1 q0 q1
      have HYT := Lib.hid (blk_new W11 (.cells #[.int .i64 a0_0, .slice (some ad) l0_1.length c0_1, .int .i64 a0_0, .slice Ax xl.length cx, .int .i64 a0_0, .slice Az zl.length cz] 24))
      have HB := Lib.hid (below_alloc (Below.refl W11.heap.size W11) (.cells #[.int .i64 a0_0, .slice (some ad) l0_1.length c0_1, .int .i64 a0_0, .slice Ax xl.length cx, .int .i64 a0_0, .slice Az zl.length cz] 24))
      replace HQ := Lib.hid (HQ.out.below HB.out)
      replace HA := Lib.hid (HA.out.below HB.out)
      replace HC := Lib.hid (HC.out.below HB.out)
      replace HU := Lib.hid (HU.out.below HB.out)
      replace HLB := Lib.hid (blk_below HLB.out HB.out)
      replace HXB := Lib.hid (blk_below HXB.out HB.out)
      replace HZB := Lib.hid (blk_below HZB.out HB.out)
      replace HX := Lib.hid (HX.out.below HB.out)
      replace HZ := Lib.hid (HZ.out.below HB.out)
      clear HB
      generalize W11.alloc (.cells #[.int .i64 a0_0, .slice (some ad) l0_1.length c0_1, .int .i64 a0_0, .slice Ax xl.length cx, .int .i64 a0_0, .slice Az zl.length cz] 24) = W12 at *
      generalize W11.heap.size = gt at *
      have y0 : W12.cell? ⟨gy, 0, none⟩ = some (.int .i64 a0_0) := (blk_cell HQ.out.y 0).trans rfl
      have y1 : W12.cell? ⟨gy, 1, none⟩ = some (.slice (some ad) l0_1.length c0_1) := (blk_cell HQ.out.y 1).trans rfl
      have s0 : W12.cell? ⟨gs, 0, none⟩ = some (.int .i64 a1_0) := (blk_cell HQ.out.s 0).trans rfl
      have s1 : W12.cell? ⟨gs, 1, none⟩ = some (.int .i64 a1_1) := (blk_cell HQ.out.s 1).trans rfl
      have q0 : W12.cell? ⟨gq, 0, none⟩ = some (.int .i64 a1_0) := (blk_cell HLB.out 0).trans rfl
      have q1 : W12.cell? ⟨gq, 1, none⟩ = some (.int .i64 lt) := (blk_cell HLB.out 1).trans rfl
      go_upto_region 18 with (fail)
      clear y0 y1 s0 s1 q0 q1
      have HST := Lib.hid (blk_new W12 (.cells #[.int .i64 a1_0, .int .i64 lt, .int .i64 a1_0, .int .i64 a1_1, .int .i64 a1_0, .int .i64 a1_1] 26))
      have HB := Lib.hid (below_alloc (Below.refl W12.heap.size W12) (.cells #[.int .i64 a1_0, .int .i64 lt, .int .i64 a1_0, .int .i64 a1_1, .int .i64 a1_0, .int .i64 a1_1] 26))
      replace HQ := Lib.hid (HQ.out.below HB.out)
      replace HA := Lib.hid (HA.out.below HB.out)
      replace HC := Lib.hid (HC.out.below HB.out)
      replace HU := Lib.hid (HU.out.below HB.out)
      replace HLB := Lib.hid (blk_below HLB.out HB.out)
      replace HXB := Lib.hid (blk_below HXB.out HB.out)
      replace HZB := Lib.hid (blk_below HZB.out HB.out)
      replace HX := Lib.hid (HX.out.below HB.out)
      replace HZ := Lib.hid (HZ.out.below HB.out)
      replace HYT := Lib.hid (blk_below HYT.out HB.out)
      clear HB
      generalize W12.alloc (.cells #[.int .i64 a1_0, .int .i64 lt, .int .i64 a1_0, .int .i64 a1_1, .int .i64 a1_0, .int .i64 a1_1] 26) = W13 at *
      generalize W12.heap.size = gf at *
      have PK : ∀ i : Nat, i < 3 → ∃ (Ai : Option Addr) (ci : Nat) (li : List S58) (ti : Int), W13.cell? ⟨gt, i * 2, none⟩ = some (.int .i64 a0_0) ∧ W13.cell? ⟨gt, i * 2 + 1, none⟩ = some (.slice Ai li.length ci) ∧ W13.cell? ⟨gf, i * 2, none⟩ = some (.int .i64 a1_0) ∧ W13.cell? ⟨gf, i * 2 + 1, none⟩ = some (.int .i64 ti) ∧ Rd k58 W13 Ai li.length ci li ∧ LI a0_0 a1_0 al cl k i li ti := fun i hi =>
        match i with
        | 0 => ⟨some ad, c0_1, l0_1, lt, (blk_cell HYT.out 0).trans rfl, (blk_cell HYT.out 1).trans rfl, (blk_cell HST.out 0).trans rfl, (blk_cell HST.out 1).trans rfl, ⟨rfl, HQ.out.hc, HQ.out.C⟩, I0.out⟩
        | 1 => ⟨Ax, cx, xl, a1_1, (blk_cell HYT.out 2).trans rfl, (blk_cell HYT.out 3).trans rfl, (blk_cell HST.out 2).trans rfl, (blk_cell HST.out 3).trans rfl, HX.out, I1.out⟩
        | 2 => ⟨Az, cz, zl, a1_1, (blk_cell HYT.out 4).trans rfl, (blk_cell HYT.out 5).trans rfl, (blk_cell HST.out 4).trans rfl, (blk_cell HST.out 5).trans rfl, HZ.out, I2.out⟩
        | i + 3 => absurd hi (by omega)
      replace PK := Lib.hid PK
      have HOX := Lib.hid I1.out.op
      clear HYT HST HLB HZB HZ I0 I1 I2 HZL hzll
      have HBW := Lib.hid (Below.refl W13.heap.size W13)
      go_wp2
      go_loopg [24] 3 (fun kq v24 w' => ∃ (i : Nat), v24 = .int .i64 i ∧ Aside0 (i + kq = 3) ∧ Aside0 (Below W13.heap.size W13 w'))
      case atStart => exact ⟨0, rfl, ⟨by omega⟩, ⟨HBW.out⟩⟩
      case round =>
        clear HBW
        obtain ⟨i, rfl, HN, HBW⟩ := hrel
        cases gk with
        | succ k1 =>
          have hi3 : i < 3 := by have := HN.out; omega
          have hi4 : (i : Int) < 3 := by omega
          have hi5 : decide ((i : Int) < 3) = true := decide_eq_true hi4
          have hi6 : decide (i < 3) = true := decide_eq_true hi3
          obtain ⟨Ai, ci, li, ti, p0, p1, p2, p3, p4, p5⟩ := PK.out i hi3
          have HI := Lib.hid p5
          have HR := Lib.hid (p4.below HBW.out)
          have P0 := Lib.hid (cell_in HBW.out p0)
          have P1 := Lib.hid (cell_in HBW.out p1)
          have P2 := Lib.hid (cell_in HBW.out p2)
          have P3 := Lib.hid (cell_in HBW.out p3)
          clear p0 p1 p2 p3 p4 p5
          go_upto_region 21 with (fail)
          replace HBW := Lib.hid HBW.out
          obtain ⟨Wd, ed⟩ : ∃ Wd, wr.drew = Wd := ⟨_, rfl⟩
          have HB := Lib.hid (show Below wr.heap.size wr Wd from by rw [← ed]; exact below_drew (Below.refl _ _))
          replace HBW := Lib.hid (below_then HBW.out HBW.out.size HB.out)
          replace P0 := Lib.hid (cell_in HB.out P0.out)
          replace P1 := Lib.hid (cell_in HB.out P1.out)
          replace P2 := Lib.hid (cell_in HB.out P2.out)
          replace P3 := Lib.hid (cell_in HB.out P3.out)
          replace HR := Lib.hid (HR.out.below HB.out)
          clear HB
          have HK := Lib.hid (arrivals_calls a0_0 Ai ci li a1_0 ti Wd HR.out.C)
          rw [HI.out.op] at HK
          refine start_ (n := 14) (S := fun w' => w'.cell? ⟨gt, i * 2, none⟩ = some (.int .i64 a0_0) ∧ w'.cell? ⟨gt, i * 2 + 1, none⟩ = some (.slice Ai li.length ci) ∧ w'.cell? ⟨gf, i * 2, none⟩ = some (.int .i64 a1_0) ∧ w'.cell? ⟨gf, i * 2 + 1, none⟩ = some (.int .i64 ti)) (ds := []) #[false, false, false, false, false, false, false, false, false, false, false, false, false, false] (by kernel_rfl) rfl rfl (by rw [ed]; exact ⟨P0.out, P1.out, P2.out, P3.out⟩) (fun hHeld => ?_); refine with_tabW forecourtlaw05_TaintLater.tab21 forecourtlaw05_TaintLater.bits21 (fun HT_ HW_ => ?_)
          rw [ed] at hHeld ⊢
          refine pure_ (i := 0) (N := some 166) (v := ?_) (a' := ?_) #[true, false, false, false, false, false, false, false, false, false, false, false, false, false] rfl rfl (any_of HT_.out (by kernel_rfl)) (fun _ _ _ h => h) (Or.inl ⟨by rfl, ?_⟩) ?_ ?_
          rotate_left
          · intro w'
            go_simp
            with_reducible rfl
          rotate_left
          · simp only [Act.put, List.setIfInBounds_toArray, List.set_cons_zero, List.set_cons_succ, i64_w, i32_w]
            rfl
          refine pure_ (i := 1) (N := some 167) (v := ?_) (a' := ?_) #[true, true, false, false, false, false, false, false, false, false, false, false, false, false] rfl rfl (any_of HT_.out (by kernel_rfl)) (fun _ _ _ h => h) (Or.inl ⟨by rfl, ?_⟩) ?_ ?_
          rotate_left
          · intro w'
            go_simp
            with_reducible rfl
          rotate_left
          · simp only [Act.put, List.setIfInBounds_toArray, List.set_cons_zero, List.set_cons_succ, i64_w, i32_w]
            rfl
          refine pure_ (i := 2) (N := some 168) (v := ?_) (a' := ?_) #[true, true, true, false, false, false, false, false, false, false, false, false, false, false] rfl rfl (any_of HT_.out (by kernel_rfl)) (fun _ _ _ h => h) (Or.inl ⟨by rfl, ?_⟩) ?_ ?_
          rotate_left
          · intro w'
            go_simp
            with_reducible rfl
          rotate_left
          · simp only [Act.put, List.setIfInBounds_toArray, List.set_cons_zero, List.set_cons_succ, i64_w, i32_w]
            rfl
          refine pure_ (i := 4) (N := some 170) (v := ?_) (a' := ?_) #[true, true, true, false, true, false, false, false, false, false, false, false, false, false] rfl rfl (any_of HT_.out (by kernel_rfl)) (fun _ _ _ h => h) (Or.inl ⟨by rfl, ?_⟩) ?_ ?_
          rotate_left
          · intro w'
            go_simp
            with_reducible rfl
          rotate_left
          · simp only [Act.put, List.setIfInBounds_toArray, List.set_cons_zero, List.set_cons_succ, i64_w, i32_w]
            rfl
          refine pure_ (i := 5) (N := some 171) (v := ?_) (a' := ?_) #[true, true, true, false, true, true, false, false, false, false, false, false, false, false] rfl rfl (any_of HT_.out (by kernel_rfl)) (fun _ _ _ h => h) (Or.inl ⟨by rfl, ?_⟩) ?_ ?_
          rotate_left
          · intro w'
            go_simp
            with_reducible rfl
          rotate_left
          · simp only [Act.put, List.setIfInBounds_toArray, List.set_cons_zero, List.set_cons_succ, i64_w, i32_w]
            rfl
          refine pure_ (i := 6) (N := some 172) (v := ?_) (a' := ?_) #[true, true, true, false, true, true, true, false, false, false, false, false, false, false] rfl rfl (any_of HT_.out (by kernel_rfl)) (fun _ _ _ h => h) (Or.inl ⟨by rfl, ?_⟩) ?_ ?_
          rotate_left
          · intro w'
            go_simp
            with_reducible rfl
          rotate_left
          · simp only [Act.put, List.setIfInBounds_toArray, List.set_cons_zero, List.set_cons_succ, i64_w, i32_w]
            rfl
          refine take_ (i := 3) (N := some 169) (v := ?_) (a' := ?_) #[true, true, true, true, true, true, true, false, false, false, false, false, false, false] rfl rfl (take_ofW HT_.out HW_.out (by kernel_rfl)) (fun _ _ _ h => h) (Or.inl ⟨by rfl, ?_⟩) hHeld ?_ ?_
          rotate_left
          · rintro w' ⟨s0, s1, s2, s3⟩
            go_simp
            with_reducible rfl
          rotate_left
          · simp only [Act.put, List.setIfInBounds_toArray, List.set_cons_zero, List.set_cons_succ, i64_w, i32_w]
            rfl
          refine take_ (i := 7) (N := some 173) (v := ?_) (a' := ?_) #[true, true, true, true, true, true, true, true, false, false, false, false, false, false] rfl rfl (take_ofW HT_.out HW_.out (by kernel_rfl)) (fun _ _ _ h => h) (Or.inl ⟨by rfl, ?_⟩) hHeld ?_ ?_
          rotate_left
          · rintro w' ⟨s0, s1, s2, s3⟩
            go_simp
            with_reducible rfl
          rotate_left
          · simp only [Act.put, List.setIfInBounds_toArray, List.set_cons_zero, List.set_cons_succ, i64_w, i32_w]
            rfl
          refine one_ (i := 8) (N := some 174) #[true, true, true, true, true, true, true, true, true, false, false, false, false, false] rfl rfl (one_of HT_.out (by kernel_rfl)) (by decide) (fun K hK => ?_)
          refine goes_ Try.func22 (by kernel_rfl) rfl #[.agg #[.int .i64 a0_0, .slice Ai li.length ci], .agg #[.int .i64 a1_0, .int .i64 ti]] (by rfl) rfl rfl (by (try simp only [List.map_toArray, List.map_cons, List.map_nil]); first | done | rfl | (simp only [List.length_drop, List.length_take]; rfl)) ?_
          refine (HK.out).mono ?_
          rintro e W14 ⟨va, rfl, ho, hb⟩
          refine ⟨_, rfl, ?_⟩
          obtain ⟨Ab, cb, hv_⟩ := Kd.R_slice ho
          subst hv_
          have HA2 := Lib.hid (Rd.of ho)
          refine hK.out _ _ ⟨cell_in hb P0.out, cell_in hb P1.out, cell_in hb P2.out, cell_in hb P3.out⟩ (fun hHeld => ?_)
          clear hK K
          refine norm_ (a' := ?_) ?_ ?_
          rotate_left
          · show Act.put _ (some 174) _ = _
            simp only [Act.put, List.setIfInBounds_toArray, List.set_cons_zero, List.set_cons_succ, i64_w, i32_w]
            rfl
          refine pure_ (i := 9) (N := some 165) (v := ?_) (a' := ?_) #[true, true, true, true, true, true, true, true, true, true, false, false, false, false] rfl rfl (any_of HT_.out (by kernel_rfl)) (fun _ _ _ h => h) (Or.inl ⟨by rfl, ?_⟩) ?_ ?_
          rotate_left
          · intro w'
            go_simp
            with_reducible rfl
          rotate_left
          · simp only [Act.put, List.setIfInBounds_toArray, List.set_cons_zero, List.set_cons_succ, i64_w, i32_w]
            rfl
          refine pure_ (i := 10) (N := some 175) (v := ?_) (a' := ?_) #[true, true, true, true, true, true, true, true, true, true, true, false, false, false] rfl rfl (any_of HT_.out (by kernel_rfl)) (fun _ _ _ h => h) (Or.inl ⟨by rfl, ?_⟩) ?_ ?_
          rotate_left
          · intro w'
            go_simp
            with_reducible rfl
          rotate_left
          · simp only [Act.put, List.setIfInBounds_toArray, List.set_cons_zero, List.set_cons_succ, i64_w, i32_w]
            rfl
          refine pure_ (i := 11) (N := some 176) (v := ?_) (a' := ?_) #[true, true, true, true, true, true, true, true, true, true, true, true, false, false] rfl rfl (any_of HT_.out (by kernel_rfl)) (fun _ _ _ h => h) (Or.inl ⟨by rfl, ?_⟩) ?_ ?_
          rotate_left
          · intro w'
            go_simp
            with_reducible rfl
          rotate_left
          · simp only [Act.put, List.setIfInBounds_toArray, List.set_cons_zero, List.set_cons_succ, i64_w, i32_w]
            rfl
          refine pure_ (i := 12) (N := some 25) (v := ?_) (a' := ?_) #[true, true, true, true, true, true, true, true, true, true, true, true, true, false] rfl rfl (any_of HT_.out (by kernel_rfl)) (fun _ _ _ h => h) (Or.inl ⟨by rfl, ?_⟩) ?_ ?_
          rotate_left
          · intro w'
            go_simp
            with_reducible rfl
          rotate_left
          · simp only [Act.put, List.setIfInBounds_toArray, List.set_cons_zero, List.set_cons_succ, i64_w, i32_w]
            rfl
          refine pure_ (i := 13) (N := some 26) (v := ?_) (a' := ?_) #[true, true, true, true, true, true, true, true, true, true, true, true, true, true] rfl rfl (any_of HT_.out (by kernel_rfl)) (fun _ _ _ h => h) (Or.inl ⟨by rfl, ?_⟩) ?_ ?_
          rotate_left
          · intro w'
            go_simp
            with_reducible rfl
          rotate_left
          · simp only [Act.put, List.setIfInBounds_toArray, List.set_cons_zero, List.set_cons_succ, i64_w, i32_w]
            rfl
          refine done_ (done_of HT_.out (by kernel_rfl)) ?_
          have HB := Lib.hid hb
          clear hb ho HK hHeld HT_ HW_ ed
          replace HBW := Lib.hid (below_then HBW.out HBW.out.size HB.out)
          replace P0 := Lib.hid (cell_in HB.out P0.out)
          replace P1 := Lib.hid (cell_in HB.out P1.out)
          replace P2 := Lib.hid (cell_in HB.out P2.out)
          replace P3 := Lib.hid (cell_in HB.out P3.out)
          replace HR := Lib.hid (HR.out.below HB.out)
          clear HB
          go_upto_region 22 with (fail)
          obtain ⟨Wd, ed⟩ : ∃ Wd, W14.drew = Wd := ⟨_, rfl⟩
          have HB := Lib.hid (show Below W14.heap.size W14 Wd from by rw [← ed]; exact below_drew (Below.refl _ _))
          replace HBW := Lib.hid (below_then HBW.out HBW.out.size HB.out)
          replace P0 := Lib.hid (cell_in HB.out P0.out)
          replace P1 := Lib.hid (cell_in HB.out P1.out)
          replace P2 := Lib.hid (cell_in HB.out P2.out)
          replace P3 := Lib.hid (cell_in HB.out P3.out)
          replace HR := Lib.hid (HR.out.below HB.out)
          replace HA2 := Lib.hid (HA2.out.below HB.out)
          clear HB
          have HK := Lib.hid (carried_calls a0_0 Ai ci li a1_0 ti Wd HR.out.C)
          rw [HI.out.op] at HK
          refine start_ (n := 14) (S := fun w' => w'.cell? ⟨gt, i * 2, none⟩ = some (.int .i64 a0_0) ∧ w'.cell? ⟨gt, i * 2 + 1, none⟩ = some (.slice Ai li.length ci) ∧ w'.cell? ⟨gf, i * 2, none⟩ = some (.int .i64 a1_0) ∧ w'.cell? ⟨gf, i * 2 + 1, none⟩ = some (.int .i64 ti)) (ds := []) #[false, false, false, false, false, false, false, false, false, false, false, false, false, false] (by kernel_rfl) rfl rfl (by rw [ed]; exact ⟨P0.out, P1.out, P2.out, P3.out⟩) (fun hHeld => ?_); refine with_tabW forecourtlaw05_TaintLater.tab22 forecourtlaw05_TaintLater.bits22 (fun HT_ HW_ => ?_)
          rw [ed] at hHeld ⊢
          refine pure_ (i := 0) (N := some 178) (v := ?_) (a' := ?_) #[true, false, false, false, false, false, false, false, false, false, false, false, false, false] rfl rfl (any_of HT_.out (by kernel_rfl)) (fun _ _ _ h => h) (Or.inl ⟨by rfl, ?_⟩) ?_ ?_
          rotate_left
          · intro w'
            go_simp
            with_reducible rfl
          rotate_left
          · simp only [Act.put, List.setIfInBounds_toArray, List.set_cons_zero, List.set_cons_succ, i64_w, i32_w]
            rfl
          refine pure_ (i := 1) (N := some 179) (v := ?_) (a' := ?_) #[true, true, false, false, false, false, false, false, false, false, false, false, false, false] rfl rfl (any_of HT_.out (by kernel_rfl)) (fun _ _ _ h => h) (Or.inl ⟨by rfl, ?_⟩) ?_ ?_
          rotate_left
          · intro w'
            go_simp
            with_reducible rfl
          rotate_left
          · simp only [Act.put, List.setIfInBounds_toArray, List.set_cons_zero, List.set_cons_succ, i64_w, i32_w]
            rfl
          refine pure_ (i := 2) (N := some 180) (v := ?_) (a' := ?_) #[true, true, true, false, false, false, false, false, false, false, false, false, false, false] rfl rfl (any_of HT_.out (by kernel_rfl)) (fun _ _ _ h => h) (Or.inl ⟨by rfl, ?_⟩) ?_ ?_
          rotate_left
          · intro w'
            go_simp
            with_reducible rfl
          rotate_left
          · simp only [Act.put, List.setIfInBounds_toArray, List.set_cons_zero, List.set_cons_succ, i64_w, i32_w]
            rfl
          refine pure_ (i := 4) (N := some 182) (v := ?_) (a' := ?_) #[true, true, true, false, true, false, false, false, false, false, false, false, false, false] rfl rfl (any_of HT_.out (by kernel_rfl)) (fun _ _ _ h => h) (Or.inl ⟨by rfl, ?_⟩) ?_ ?_
          rotate_left
          · intro w'
            go_simp
            with_reducible rfl
          rotate_left
          · simp only [Act.put, List.setIfInBounds_toArray, List.set_cons_zero, List.set_cons_succ, i64_w, i32_w]
            rfl
          refine pure_ (i := 5) (N := some 183) (v := ?_) (a' := ?_) #[true, true, true, false, true, true, false, false, false, false, false, false, false, false] rfl rfl (any_of HT_.out (by kernel_rfl)) (fun _ _ _ h => h) (Or.inl ⟨by rfl, ?_⟩) ?_ ?_
          rotate_left
          · intro w'
            go_simp
            with_reducible rfl
          rotate_left
          · simp only [Act.put, List.setIfInBounds_toArray, List.set_cons_zero, List.set_cons_succ, i64_w, i32_w]
            rfl
          refine pure_ (i := 6) (N := some 184) (v := ?_) (a' := ?_) #[true, true, true, false, true, true, true, false, false, false, false, false, false, false] rfl rfl (any_of HT_.out (by kernel_rfl)) (fun _ _ _ h => h) (Or.inl ⟨by rfl, ?_⟩) ?_ ?_
          rotate_left
          · intro w'
            go_simp
            with_reducible rfl
          rotate_left
          · simp only [Act.put, List.setIfInBounds_toArray, List.set_cons_zero, List.set_cons_succ, i64_w, i32_w]
            rfl
          refine take_ (i := 3) (N := some 181) (v := ?_) (a' := ?_) #[true, true, true, true, true, true, true, false, false, false, false, false, false, false] rfl rfl (take_ofW HT_.out HW_.out (by kernel_rfl)) (fun _ _ _ h => h) (Or.inl ⟨by rfl, ?_⟩) hHeld ?_ ?_
          rotate_left
          · rintro w' ⟨s0, s1, s2, s3⟩
            go_simp
            with_reducible rfl
          rotate_left
          · simp only [Act.put, List.setIfInBounds_toArray, List.set_cons_zero, List.set_cons_succ, i64_w, i32_w]
            rfl
          refine take_ (i := 7) (N := some 185) (v := ?_) (a' := ?_) #[true, true, true, true, true, true, true, true, false, false, false, false, false, false] rfl rfl (take_ofW HT_.out HW_.out (by kernel_rfl)) (fun _ _ _ h => h) (Or.inl ⟨by rfl, ?_⟩) hHeld ?_ ?_
          rotate_left
          · rintro w' ⟨s0, s1, s2, s3⟩
            go_simp
            with_reducible rfl
          rotate_left
          · simp only [Act.put, List.setIfInBounds_toArray, List.set_cons_zero, List.set_cons_succ, i64_w, i32_w]
            rfl
          refine one_ (i := 8) (N := some 186) #[true, true, true, true, true, true, true, true, true, false, false, false, false, false] rfl rfl (one_of HT_.out (by kernel_rfl)) (by decide) (fun K hK => ?_)
          refine goes_ Try.func24 (by kernel_rfl) rfl #[.agg #[.int .i64 a0_0, .slice Ai li.length ci], .agg #[.int .i64 a1_0, .int .i64 ti]] (by rfl) rfl rfl (by (try simp only [List.map_toArray, List.map_cons, List.map_nil]); first | done | rfl | (simp only [List.length_drop, List.length_take]; rfl)) ?_
          refine (HK.out).mono ?_
          rintro e W15 ⟨va, rfl, ho, hb⟩
          refine ⟨_, rfl, ?_⟩
          obtain ⟨Ad, cd, hv_⟩ := Kd.R_slice ho
          subst hv_
          have HC2 := Lib.hid (Rd.of ho)
          refine hK.out _ _ ⟨cell_in hb P0.out, cell_in hb P1.out, cell_in hb P2.out, cell_in hb P3.out⟩ (fun hHeld => ?_)
          clear hK K
          refine norm_ (a' := ?_) ?_ ?_
          rotate_left
          · show Act.put _ (some 186) _ = _
            simp only [Act.put, List.setIfInBounds_toArray, List.set_cons_zero, List.set_cons_succ, i64_w, i32_w]
            rfl
          refine pure_ (i := 9) (N := some 177) (v := ?_) (a' := ?_) #[true, true, true, true, true, true, true, true, true, true, false, false, false, false] rfl rfl (any_of HT_.out (by kernel_rfl)) (fun _ _ _ h => h) (Or.inl ⟨by rfl, ?_⟩) ?_ ?_
          rotate_left
          · intro w'
            go_simp
            with_reducible rfl
          rotate_left
          · simp only [Act.put, List.setIfInBounds_toArray, List.set_cons_zero, List.set_cons_succ, i64_w, i32_w]
            rfl
          refine pure_ (i := 10) (N := some 187) (v := ?_) (a' := ?_) #[true, true, true, true, true, true, true, true, true, true, true, false, false, false] rfl rfl (any_of HT_.out (by kernel_rfl)) (fun _ _ _ h => h) (Or.inl ⟨by rfl, ?_⟩) ?_ ?_
          rotate_left
          · intro w'
            go_simp
            with_reducible rfl
          rotate_left
          · simp only [Act.put, List.setIfInBounds_toArray, List.set_cons_zero, List.set_cons_succ, i64_w, i32_w]
            rfl
          refine pure_ (i := 11) (N := some 188) (v := ?_) (a' := ?_) #[true, true, true, true, true, true, true, true, true, true, true, true, false, false] rfl rfl (any_of HT_.out (by kernel_rfl)) (fun _ _ _ h => h) (Or.inl ⟨by rfl, ?_⟩) ?_ ?_
          rotate_left
          · intro w'
            go_simp
            with_reducible rfl
          rotate_left
          · simp only [Act.put, List.setIfInBounds_toArray, List.set_cons_zero, List.set_cons_succ, i64_w, i32_w]
            rfl
          refine pure_ (i := 12) (N := some 27) (v := ?_) (a' := ?_) #[true, true, true, true, true, true, true, true, true, true, true, true, true, false] rfl rfl (any_of HT_.out (by kernel_rfl)) (fun _ _ _ h => h) (Or.inl ⟨by rfl, ?_⟩) ?_ ?_
          rotate_left
          · intro w'
            go_simp
            with_reducible rfl
          rotate_left
          · simp only [Act.put, List.setIfInBounds_toArray, List.set_cons_zero, List.set_cons_succ, i64_w, i32_w]
            rfl
          refine pure_ (i := 13) (N := some 28) (v := ?_) (a' := ?_) #[true, true, true, true, true, true, true, true, true, true, true, true, true, true] rfl rfl (any_of HT_.out (by kernel_rfl)) (fun _ _ _ h => h) (Or.inl ⟨by rfl, ?_⟩) ?_ ?_
          rotate_left
          · intro w'
            go_simp
            with_reducible rfl
          rotate_left
          · simp only [Act.put, List.setIfInBounds_toArray, List.set_cons_zero, List.set_cons_succ, i64_w, i32_w]
            rfl
          refine done_ (done_of HT_.out (by kernel_rfl)) ?_
          have HB := Lib.hid hb
          clear hb ho HK hHeld HT_ HW_ ed
          replace HBW := Lib.hid (below_then HBW.out HBW.out.size HB.out)
          replace P0 := Lib.hid (cell_in HB.out P0.out)
          replace P1 := Lib.hid (cell_in HB.out P1.out)
          replace P2 := Lib.hid (cell_in HB.out P2.out)
          replace P3 := Lib.hid (cell_in HB.out P3.out)
          replace HR := Lib.hid (HR.out.below HB.out)
          replace HA2 := Lib.hid (HA2.out.below HB.out)
          clear HB
          have hbl := arr_len HI.out.op
          have hbl2 : (((arrL a0_0 li a1_0 ti).length : Int) != a0_0) = false := by simp [hbl]
          have hI1 := HI.out.arr
          have hdl : (carL a0_0 li a1_0 ti).length ≤ 1000 := by have := carL_len' a0_0 li a1_0 ti; have := (open_parts HI.out.op).1.len; omega
          have hI2 := HI.out.car
          generalize arrL a0_0 li a1_0 ti = bl at *
          generalize carL a0_0 li a1_0 ti = dl at *
          replace hI1 := Lib.hid hI1
          replace hI2 := Lib.hid hI2
          have HQ2 := HQ.out.below HBW.out
          have y0 : W15.cell? ⟨gy, 0, none⟩ = some (.int .i64 a0_0) := (blk_cell HQ2.y 0).trans rfl
          go_upto_region 25 with (fail)
          clear y0 hbl2 HQ2 P0 P1 P2 P3 HR HI
          have HBL := Lib.hid hbl
          clear hbl
          have HBV := Lib.hid (Below.refl W15.heap.size W15)
          replace HA2 := Lib.hid HA2.out
          go_wp2
          go_loopg [29] bl.length (fun kq v29 w' => ∃ (j : Nat), v29 = .int .i64 j ∧ Aside0 (j + kq = bl.length) ∧ Aside0 (Below W15.heap.size W15 w'))
          case atStart => exact ⟨0, rfl, ⟨by omega⟩, ⟨HBV.out⟩⟩
          case round =>
            clear HBV
            obtain ⟨j, rfl, HM, HBV⟩ := hrel
            cases gk with
            | succ k2 => as_aux_lemma =>
              have hjn : j < bl.length := by have := HM.out; omega
              have hl4 : decide ((j : Int) < (bl.length : Int)) = true := decide_eq_true (by omega)
              have hl5 : decide (j < bl.length) = true := decide_eq_true hjn
              have hjn2 : (j : Int) < a0_0 := by have := HBL.out; omega
              have hF := hI1.out (j : Int) (by omega) hjn2
              obtain ⟨ad1, e1, hx1⟩ := Kd.at_int (HA2.out.below HBV.out).C (j : Int) (by omega) (by omega)
              cases e1
              obtain ⟨ad2, e2, hx2⟩ := Kd.at_int (HA.out.below (below_then HBW.out HBW.out.size HBV.out)).C (j : Int) (by omega) (by omega)
              cases e2
              rw [Int.toNat_natCast] at hx1 hx2
              rw [show gc bl (j : Int) = rd bl (j : Int) from rfl, show gc al (j : Int) = rd al (j : Int) from rfl] at hF
              generalize rd al (j : Int) = v1 at *
              generalize rd bl (j : Int) = v2 at *
              have hd : decide (v2 < v1) = false := decide_eq_false (by omega)
              have hb0 : (j : Int) < (al.length : Int) := by omega
              have hb1 : (j : Int) < (bl.length : Int) := by omega
              clear hF
              go_upto_region 28 with (fail)
              go_quiet (fail)
              have HB2 := Lib.hid (below_then HBV.out HBV.out.size (drawn_below (W' := wr.drewN nq) ⟨nq, rfl⟩))
              go_wp2
              go_roundg k2
              case rel => exact ⟨j + 1, by go_num, ⟨by have := HM.out; omega⟩, ⟨HB2.out⟩⟩
              case measure => omega
            | zero =>
              have hjb : j = bl.length := by have := HM.out; omega
              have hl4 : decide ((j : Int) < (bl.length : Int)) = false := decide_eq_false (by omega)
              have hl5 : decide (j < bl.length) = false := decide_eq_false (by omega)
              clear hjb
              go_wp2
              go_loopg [30] dl.length (fun kq v30 w' => ∃ (q : Nat), v30 = .int .i64 q ∧ Aside0 (q + kq = dl.length) ∧ Aside0 (Below W15.heap.size W15 w'))
              case atStart => exact ⟨0, rfl, ⟨by omega⟩, ⟨HBV.out⟩⟩
              case round =>
                clear HBV
                obtain ⟨q, rfl, HO, HBV⟩ := hrel
                cases gk with
                | succ k3 => as_aux_lemma =>
                  have hqn : q < dl.length := by have := HO.out; omega
                  have hl4 : decide ((q : Int) < (dl.length : Int)) = true := decide_eq_true (by omega)
                  have hl5 : decide (q < dl.length) = true := decide_eq_true hqn
                  obtain ⟨ad1, e1, hx1⟩ := Kd.at_int (HC2.out.below HBV.out).C (q : Int) (by omega) (by omega)
                  cases e1
                  rw [Int.toNat_natCast, rd_nat dl q hqn] at hx1
                  obtain ⟨⟨hc0, hc1⟩, hmem⟩ := hI2.out dl[q] (List.getElem_mem hqn)
                  generalize dl[q] = x at *
                  have hb1 : (q : Int) < (dl.length : Int) := by omega
                  have HCW := Lib.hid (HC.out.below (below_then HBW.out HBW.out.size HBV.out))
                  by_cases e2 : i = 2
                  · have q1 : ((i : Int) == 2) = true := by simp [e2]
                    have q2 : (i == 2) = true := by simp [e2]
                    have E2 := Lib.hid e2
                    clear e2
                    by_cases e3 : (k : Int) ≤ x
                    · have q3 : decide ((k : Int) ≤ x) = true := decide_eq_true e3
                      rw [if_pos ⟨E2.out, e3⟩] at hmem
                      have hwx : wrap64 (x + 1) = x + 1 := wrap_ok _ (by omega) (by omega)
                      have HIN := Lib.hid (in_true (u := cl) (by omega) hmem)
                      clear e3 hmem
                      go_wp2_with (go_at_call 45; refine (forecourtlaw05_in.calls 1100 Ac cc cl (x + 1) true _ HCW.out.C HCW.out.hc HIN.out).mono ?_; rintro e WI ⟨rfl, hd⟩; have HB2 := Lib.hid (drawn_below hd); clear hd)
                      go_roundg k3
                      case rel => exact ⟨q + 1, by go_num, ⟨by have := HO.out; omega⟩, ⟨below_then HBV.out HBV.out.size HB2.out⟩⟩
                      case measure => omega
                    · have q3 : decide ((k : Int) ≤ x) = false := decide_eq_false e3
                      rw [if_neg (fun h => e3 h.2)] at hmem
                      have HIN := Lib.hid (in_true (u := cl) (by omega) hmem)
                      clear e3 hmem
                      go_wp2_with (go_at_call 45; refine (forecourtlaw05_in.calls 1100 Ac cc cl x true _ HCW.out.C HCW.out.hc HIN.out).mono ?_; rintro e WI ⟨rfl, hd⟩; have HB2 := Lib.hid (drawn_below hd); clear hd)
                      go_roundg k3
                      case rel => exact ⟨q + 1, by go_num, ⟨by have := HO.out; omega⟩, ⟨below_then HBV.out HBV.out.size HB2.out⟩⟩
                      case measure => omega
                  · have q1 : ((i : Int) == 2) = false := beq_eq_false_iff_ne.mpr (by omega)
                    have q2 : (i == 2) = false := beq_eq_false_iff_ne.mpr e2
                    rw [if_neg (fun h => e2 h.1)] at hmem
                    have HIN := Lib.hid (in_true (u := cl) (by omega) hmem)
                    clear e2 hmem
                    go_wp2_with (go_at_call 45; refine (forecourtlaw05_in.calls 1100 Ac cc cl x true _ HCW.out.C HCW.out.hc HIN.out).mono ?_; rintro e WI ⟨rfl, hd⟩; have HB2 := Lib.hid (drawn_below hd); clear hd)
                    go_roundg k3
                    case rel => exact ⟨q + 1, by go_num, ⟨by have := HO.out; omega⟩, ⟨below_then HBV.out HBV.out.size HB2.out⟩⟩
                    case measure => omega
                | zero => as_aux_lemma =>
                  have hqb : q = dl.length := by have := HO.out; omega
                  have hl4 : decide ((q : Int) < (dl.length : Int)) = false := decide_eq_false (by omega)
                  have hl5 : decide (q < dl.length) = false := decide_eq_false (by omega)
                  clear hqb
                  go_wp2
                  go_roundg k1
                  case rel => exact ⟨i + 1, by go_num, ⟨by have := HN.out; omega⟩, ⟨below_then HBW.out HBW.out.size HBV.out⟩⟩
                  case measure => omega
        | zero => as_aux_lemma =>
          have hi3 : i = 3 := by have := HN.out; omega
          have hi5 : decide ((i : Int) < 3) = false := decide_eq_false (by omega)
          have hi6 : decide (i < 3) = false := decide_eq_false (by omega)
          clear hi3
          have HB := Lib.hid HBW.out
          replace HQ := Lib.hid (HQ.out.below HB.out)
          replace HU := Lib.hid (HU.out.below HB.out)
          replace HXB := Lib.hid (blk_below HXB.out HB.out)
          replace HX := Lib.hid (HX.out.below HB.out)
          clear HB
          clear HBW HA HC
          have x0 : wr.cell? ⟨gx, 0, none⟩ = some (.int .i64 a0_0) := (blk_cell HXB.out 0).trans rfl
          have x1 : wr.cell? ⟨gx, 1, none⟩ = some (.slice Ax xl.length cx) := (blk_cell HXB.out 1).trans rfl
          have s0 : wr.cell? ⟨gs, 0, none⟩ = some (.int .i64 a1_0) := (blk_cell HQ.out.s 0).trans rfl
          have s1 : wr.cell? ⟨gs, 1, none⟩ = some (.int .i64 a1_1) := (blk_cell HQ.out.s 1).trans rfl
          have HK := Lib.hid (sure_calls a0_0 Ax cx xl a1_0 a1_1 wr HX.out.C)
          rw [HOX.out] at HK
          go_upto_region 39 with (go_at_call 26; refine (HK.out).mono ?_; rintro e W14 ⟨va, rfl, ho, hb⟩; obtain ⟨Aw, cw, hv_⟩ := Kd.R_slice ho; subst hv_; have HU2 := Lib.hid (Rd.of ho); have HB := Lib.hid hb; clear ho hb)
          clear HK s0 s1
          clear x0 x1
          replace HQ := Lib.hid (HQ.out.below HB.out)
          replace HU := Lib.hid (HU.out.below HB.out)
          clear HB
          have L4 := (sureR HOX.out).len
          generalize sureL a0_0 xl a1_0 a1_1 = wl at *
          have HBV := Lib.hid (Below.refl W14.heap.size W14)
          go_wp2
          go_loopg [34] ul.length (fun kq v34 w' => ∃ (q : Nat), v34 = .int .i64 q ∧ Aside0 (q + kq = ul.length) ∧ Aside0 (Below W14.heap.size W14 w'))
          case atStart => exact ⟨0, rfl, ⟨by omega⟩, ⟨HBV.out⟩⟩
          case round =>
            clear HBV
            obtain ⟨q, rfl, HO, HBV⟩ := hrel
            cases gk with
            | succ k3 => as_aux_lemma =>
              have hqn : q < ul.length := by have := HO.out; omega
              have hl4 : decide ((q : Int) < (ul.length : Int)) = true := decide_eq_true (by omega)
              have hl5 : decide (q < ul.length) = true := decide_eq_true hqn
              obtain ⟨ad1, e1, hx1⟩ := Kd.at_int (HU.out.below HBV.out).C (q : Int) (by omega) (by omega)
              cases e1
              rw [Int.toNat_natCast, rd_nat ul q hqn] at hx1
              have hmem := HSX.out ul[q] (List.getElem_mem hqn)
              generalize ul[q] = x at *
              have hb1 : (q : Int) < (ul.length : Int) := by omega
              have HIN := Lib.hid (in_true (u := wl) (by omega) hmem)
              have HCW := Lib.hid (HU2.out.below HBV.out)
              clear hmem
              go_wp2_with (go_at_call 45; refine (forecourtlaw05_in.calls 1100 Aw cw wl x true _ HCW.out.C HCW.out.hc HIN.out).mono ?_; rintro e WI ⟨rfl, hd⟩; have HB2 := Lib.hid (drawn_below hd); clear hd)
              go_roundg k3
              case rel => exact ⟨q + 1, by go_num, ⟨by have := HO.out; omega⟩, ⟨below_then HBV.out HBV.out.size HB2.out⟩⟩
              case measure => omega
            | zero => as_aux_lemma =>
              have hqb : q = ul.length := by have := HO.out; omega
              have hl4 : decide ((q : Int) < (ul.length : Int)) = false := decide_eq_false (by omega)
              have hl5 : decide (q < ul.length) = false := decide_eq_false (by omega)
              clear hqb
              go_wp2_with (go_at_call 15; refine (works_calls _).mono ?_; rintro e W21 ⟨rfl, hb⟩; have HB2 := Lib.hid hb; clear hb)
              go_ret
              exact ⟨rfl, (HQ.out.below HBV.out).g.trans (HB2.out.mono (Nat.le_trans HQ.out.g.size HBV.out.size))⟩
end Go.Proofs.Ytfhmepdbbhcncaa.P
