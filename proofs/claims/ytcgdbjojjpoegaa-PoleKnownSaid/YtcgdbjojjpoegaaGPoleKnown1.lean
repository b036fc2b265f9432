/- Texts of this claim, joined: XK. -/
import Derived.Test.YtcgdbjojjpoegaaGc6
/- The walk of PoleKnown: the examples of the chapter, call by call. -/
namespace Go.Proofs.Ytcgdbjojjpoegaa.P
open Go.RowKit Go.Shelf Go.Proofs.YtcgdbjojjpoegaaW.PrintWords Go.Proofs.YtcgdbjojjpoegaaW.PrintLast Go.Proofs.YtcgdbjojjpoegaaW.PrintMore Go.Proofs.YtcgdbjojjpoegaaM Go.Proofs.YtcgdbjojjpoegaaR
set_option linter.unusedVariables false
set_option linter.unusedSimpArgs false
set_option maxRecDepth 100000

def hk9 : List S54 := [⟨0, 180⟩, ⟨50, 170⟩, ⟨90, 185⟩]
theorem ch10 : changesL 10 10 sg = [0, 50, 90] := by
  have : changesC 10 10 sg = [0, 50, 50, 90, 90] := by kernel_rfl
  unfold changesL
  rw [this, sort_is _ [0, 50, 50, 90, 90] (.refl _) (by decide)]
  have h9 : Lib.compact ([0, 50, 50, 90, 90] : List Int) = [0, 50, 90] := by kernel_rfl
  exact h9
theorem k_p1 : pole_Price.f 100 sg 60 = some (170, 0) := by kernel_rfl
theorem k_p2 : pole_Price.f 100 sg 2000 = some (185, 0) := by kernel_rfl
theorem k_f1 : pole_Fair.f sg (-5) 5 54 = some (180, 0) := by kernel_rfl
theorem k_f2 : pole_Fair.f sg (-5) 5 55 = some (170, 0) := by kernel_rfl
theorem k_f3 : pole_Fair.f sg (-5) 5 105 = some (185, 0) := by kernel_rfl
theorem k_high : pole_Highest.f sg 10 10 = some (hk9, 0) := by
  unfold pole_Highest.f
  rw [ch10]
  have h9 : ((pole_checkClocks.f sg 10 10).bind fun e => if e = 0 then (highO sg 10 10 [0, 50, 90] []).bind fun out => some (out, 0) else some ([], e)) = some (hk9, (0 : Int)) := by kernel_rfl
  exact h9
theorem k_ro : pole_CheckRounding.f 4 tb [[1, 0, 0], [0, 1, 0]] = some 0 := by kernel_rfl
theorem k_prices : forecourtlaw09_prices.f 100 hk9 hk9 = some true := by kernel_rfl
/-- Between the calls of PoleKnown. -/
structure YN (w W : World) (b : Nat) (A : Option Addr) (c : Nat) (A2 : Option Addr) (c2 : Nat) : Prop where
  t : Blk W b 39 #[.int .i64 4, .slice A2 2 c2]
  S : Kd.C k54 W A sg.length sg
  hc : sg.length ≤ c
  T : Kd.C (Kd.slice 2 (Kd.int .i64)) W A2 tb.length tb
  hc2 : tb.length ≤ c2
  g : Below w.heap.size w W
theorem YN.below {w W W' : World} {b : Nat} {A : Option Addr} {c : Nat} {A2 : Option Addr} {c2 : Nat} (h : YN w W b A c A2 c2) (hb : Below W.heap.size W W') : YN w W' b A c A2 c2 :=
  ⟨h.t.below hb h.t.lt, Kd.C_below h.S hb, h.hc, Kd.C_below h.T hb, h.hc2, below_then h.g h.g.size hb⟩
/-- three prices, written down -/
theorem lit54k (W : World) : Kd.C k54 (W.alloc (.cells #[.int .i64 0, .int .i64 180, .int .i64 50, .int .i64 170, .int .i64 90, .int .i64 185] 54)) (some ⟨W.heap.size, 0, none⟩) 3 hk9 := by
  have B := Blk.new W #[.int .i64 0, .int .i64 180, .int .i64 50, .int .i64 170, .int .i64 90, .int .i64 185] 54
  refine ⟨rfl, by decide, fun _ => ⟨_, rfl, fun j p hj => ?_⟩⟩
  have key : ∀ (j : Nat) (a b : Int), (#[.int .i64 0, .int .i64 180, .int .i64 50, .int .i64 170, .int .i64 90, .int .i64 185] : Array Value)[j * 2]? = some (.int .i64 a) → (#[.int .i64 0, .int .i64 180, .int .i64 50, .int .i64 170, .int .i64 90, .int .i64 185] : Array Value)[j * 2 + 1]? = some (.int .i64 b) →
      ∃ cs, cs.length = 2 ∧ k54.K (W.alloc (.cells #[.int .i64 0, .int .i64 180, .int .i64 50, .int .i64 170, .int .i64 90, .int .i64 185] 54)) ⟨a, b⟩ cs ∧ ∀ i u, cs[i]? = some u → (W.alloc (.cells #[.int .i64 0, .int .i64 180, .int .i64 50, .int .i64 170, .int .i64 90, .int .i64 185] 54)).cell? ((⟨W.heap.size, 0, none⟩ : Addr).add (j * 2 + i)) = some u := by
    intro j a b h1 h2
    refine ⟨[.int .i64 a, .int .i64 b], rfl, k54_mk _ _, fun i u hu => ?_⟩
    rw [Addr.add_lit, Nat.zero_add, B.cell]
    match i with
    | 0 => simp at hu; subst hu; exact h1
    | 1 => simp at hu; subst hu; exact h2
    | i + 2 => simp at hu
  match j with
  | 0 =>
    have hj' : p = ⟨0, 180⟩ := by simpa [hk9] using hj.symm
    subst hj'
    exact key 0 0 180 rfl rfl
  | 1 =>
    have hj' : p = ⟨50, 170⟩ := by simpa [hk9] using hj.symm
    subst hj'
    exact key 1 50 170 rfl rfl
  | 2 =>
    have hj' : p = ⟨90, 185⟩ := by simpa [hk9] using hj.symm
    subst hj'
    exact key 2 90 185 rfl rfl
  | j + 3 => simp [hk9] at hj
set_option maxHeartbeats 4000000 in
set_option maxRecDepth 100000 in
theorem knownW (w : World) : Calls Try.prog 12 #[] w fun e w' => e = .returned (.bool true) ∧ Below w.heap.size w w' := by
  go_enter Try.func12, Try.ntmps12
  go_upto_region 2 with (first
    | (go_at_call 45; refine (forecourtlaw09_Sign.calls sg _ y_sign).mono ?_; rintro e w1 ⟨v1, rfl, ho, hb1⟩; obtain ⟨A, c, hv⟩ := Kd.R_slice ho; subst hv; have HO := Lib.hid (Kd.R_reads' ho); have HB1 := Lib.hid hb1; clear ho hb1)
    | (go_at_call 46; refine (forecourtlaw09_Table.calls 4 tb _ y_table).mono ?_; rintro e w2 ⟨v2, rfl, ho2, hb2⟩; obtain ⟨A2, c2, hv2⟩ := Kd.N_slice ho2; subst hv2; have HO2 := Lib.hid (Kd.N_reads' ho2); have HB2 := Lib.hid hb2; clear ho2 hb2))
  have HYS := Lib.hid (show YN w (w2.alloc (.cells #[.int .i64 4, .slice A2 2 c2] 39)) w2.heap.size A c A2 c2 from by
    have b0 := Blk.new w2 #[.int .i64 4, .slice A2 2 c2] 39
    have hw2 := below_then HB1.out HB1.out.size HB2.out
    exact ⟨b0, Kd.C_below (Kd.C_below HO.out.2.2 HB2.out) (box1 _ _), HO.out.2.1, Kd.C_below HO2.out.2.2 (box1 _ _), HO2.out.2.1, below_then hw2 hw2.size (box1 _ _)⟩)
  clear HO HO2 HB1 HB2
  generalize hbx : w2.heap.size = b at *
  clear hbx
  try simp only [show tb.length = 2 from rfl, show sg.length = 3 from rfl]
  generalize w2.alloc (.cells #[.int .i64 4, .slice A2 2 c2] 39) = W0 at *
  have c0 : W0.cell? ⟨b, 0, none⟩ = some (.int .i64 4) := HYS.out.t.cell 0
  have c1 : W0.cell? ⟨b, 1, none⟩ = some (.slice A2 2 c2) := HYS.out.t.cell 1
  go_upto_region 3 with (go_at_call 16; refine (pole_Price.calls 100 A c sg 60 170 0 _ HYS.out.S HYS.out.hc k_p1).mono ?_; rintro e W1 ⟨rfl, hb⟩; have HB := Lib.hid hb; clear hb)
  replace HYS := Lib.hid (HYS.out.below HB.out)
  clear c0 c1 HB
  have c0 : W1.cell? ⟨b, 0, none⟩ = some (.int .i64 4) := HYS.out.t.cell 0
  have c1 : W1.cell? ⟨b, 1, none⟩ = some (.slice A2 2 c2) := HYS.out.t.cell 1
  go_upto_region 4 with (go_at_call 16; refine (pole_Price.calls 100 A c sg 2000 185 0 _ HYS.out.S HYS.out.hc k_p2).mono ?_; rintro e W2 ⟨rfl, hb⟩; have HB := Lib.hid hb; clear hb)
  replace HYS := Lib.hid (HYS.out.below HB.out)
  clear c0 c1 HB
  have c0 : W2.cell? ⟨b, 0, none⟩ = some (.int .i64 4) := HYS.out.t.cell 0
  have c1 : W2.cell? ⟨b, 1, none⟩ = some (.slice A2 2 c2) := HYS.out.t.cell 1
  go_upto_region 5 with (first
    | (go_at_call 37; refine (forecourtlaw09_rg.calls (-5) (5) (-5) (5) _ (y_rg _ _)).mono ?_; rintro e Wx ⟨rfl, hbx⟩; have HBx := Lib.hid hbx; clear hbx)
    | (go_at_call 18; refine (pole_Fair.calls A c sg (-5) 5 54 180 0 _ (Kd.C_below HYS.out.S HBx.out) HYS.out.hc k_f1).mono ?_; rintro e W3 ⟨rfl, hb⟩; have HB := Lib.hid (below_then HBx.out HBx.out.size hb); clear hb HBx))
  replace HYS := Lib.hid (HYS.out.below HB.out)
  clear c0 c1 HB
  have c0 : W3.cell? ⟨b, 0, none⟩ = some (.int .i64 4) := HYS.out.t.cell 0
  have c1 : W3.cell? ⟨b, 1, none⟩ = some (.slice A2 2 c2) := HYS.out.t.cell 1
  go_upto_region 6 with (first
    | (go_at_call 37; refine (forecourtlaw09_rg.calls (-5) (5) (-5) (5) _ (y_rg _ _)).mono ?_; rintro e Wx ⟨rfl, hbx⟩; have HBx := Lib.hid hbx; clear hbx)
    | (go_at_call 18; refine (pole_Fair.calls A c sg (-5) 5 55 170 0 _ (Kd.C_below HYS.out.S HBx.out) HYS.out.hc k_f2).mono ?_; rintro e W4 ⟨rfl, hb⟩; have HB := Lib.hid (below_then HBx.out HBx.out.size hb); clear hb HBx))
  replace HYS := Lib.hid (HYS.out.below HB.out)
  clear c0 c1 HB
  have c0 : W4.cell? ⟨b, 0, none⟩ = some (.int .i64 4) := HYS.out.t.cell 0
  have c1 : W4.cell? ⟨b, 1, none⟩ = some (.slice A2 2 c2) := HYS.out.t.cell 1
  go_upto_region 7 with (first
    | (go_at_call 37; refine (forecourtlaw09_rg.calls (-5) (5) (-5) (5) _ (y_rg _ _)).mono ?_; rintro e Wx ⟨rfl, hbx⟩; have HBx := Lib.hid hbx; clear hbx)
    | (go_at_call 18; refine (pole_Fair.calls A c sg (-5) 5 105 185 0 _ (Kd.C_below HYS.out.S HBx.out) HYS.out.hc k_f3).mono ?_; rintro e W5 ⟨rfl, hb⟩; have HB := Lib.hid (below_then HBx.out HBx.out.size hb); clear hb HBx))
  replace HYS := Lib.hid (HYS.out.below HB.out)
  clear c0 c1 HB
  have c0 : W5.cell? ⟨b, 0, none⟩ = some (.int .i64 4) := HYS.out.t.cell 0
  have c1 : W5.cell? ⟨b, 1, none⟩ = some (.slice A2 2 c2) := HYS.out.t.cell 1
  go_upto_region 8 with (first
    | (go_at_call 37; refine (forecourtlaw09_rg.calls (10) (10) (10) (10) _ (y_rg _ _)).mono ?_; rintro e Wx ⟨rfl, hbx⟩; have HBx := Lib.hid hbx; clear hbx)
    | (go_at_call 24; refine (pole_Highest.calls A c sg 10 10 hk9 0 _ (Kd.C_below HYS.out.S HBx.out) HYS.out.hc k_high).mono ?_; rintro e W6 ⟨vh, rfl, ho, hb⟩; obtain ⟨Ah, ch, hv⟩ := Kd.R_slice ho; subst hv; have HOh := Lib.hid (Rd.of ho); have HB := Lib.hid (below_then HBx.out HBx.out.size hb); clear ho hb HBx))
  replace HYS := Lib.hid (HYS.out.below HB.out)
  clear c0 c1 HB
  have c0 : W6.cell? ⟨b, 0, none⟩ = some (.int .i64 4) := HYS.out.t.cell 0
  have c1 : W6.cell? ⟨b, 1, none⟩ = some (.slice A2 2 c2) := HYS.out.t.cell 1
  go_upto_region 9 with (go_at_call 30; refine (pole_CheckRounding.calls 4 A2 c2 tb (some ⟨W6.heap.size + 2, 0, none⟩) 2 [[1, 0, 0], [0, 1, 0]] 0 _ (Kd.C_below HYS.out.T (((Below.refl _ _).alloc (Nat.le_refl _) _).alloc (by simp) _ |>.alloc (by simp; omega) _)) HYS.out.hc2 (lit2 W6 [1, 0, 0] [0, 1, 0] #[.int .i64 1, .int .i64 0, .int .i64 0] #[.int .i64 0, .int .i64 1, .int .i64 0] rfl rfl rfl rfl) (by decide) k_ro).mono ?_; rintro e W7 ⟨rfl, hb⟩; have HB := Lib.hid (lit2_below W6 _ _ _ hb); clear hb)
  have HOh := Lib.hid (HOh.out.below HB.out)
  replace HYS := Lib.hid (HYS.out.below HB.out)
  clear c0 c1 HB
  go_wp2_with (first
    | (go_at_call 38; refine (forecourtlaw09_Price.calls 0 180 0 180 _ (y_pr 0 180)).mono ?_; rintro e W8 ⟨rfl, hb⟩; have HB := Lib.hid hb; clear hb; replace HOh := Lib.hid (HOh.out.below HB.out); replace HYS := Lib.hid (HYS.out.below HB.out); clear HB)
    | (go_at_call 38; refine (forecourtlaw09_Price.calls 50 170 50 170 _ (y_pr 50 170)).mono ?_; rintro e W9 ⟨rfl, hb⟩; have HB := Lib.hid hb; clear hb; replace HOh := Lib.hid (HOh.out.below HB.out); replace HYS := Lib.hid (HYS.out.below HB.out); clear HB)
    | (go_at_call 38; refine (forecourtlaw09_Price.calls 90 185 90 185 _ (y_pr 90 185)).mono ?_; rintro e W10 ⟨rfl, hb⟩; have HB := Lib.hid hb; clear hb; replace HOh := Lib.hid (HOh.out.below HB.out); replace HYS := Lib.hid (HYS.out.below HB.out); clear HB)
    | (go_at_call 26; refine (forecourtlaw09_prices.calls 100 Ah ch hk9 (some ⟨W10.heap.size, 0, none⟩) 3 hk9 true _ (HOh.out.below (alloc_step (Below.refl _ _))).C (by have := HOh.out.hc; exact this) (lit54k W10) (by decide) k_prices).mono ?_; rintro e W11 ⟨rfl, hb⟩; have HB := Lib.hid (alloc_step (drawn_below hb)); clear hb; replace HOh := Lib.hid (HOh.out.below HB.out); replace HYS := Lib.hid (HYS.out.below HB.out); clear HB)
    | (go_at_call 15; refine (works_calls _).mono ?_; rintro e W12 ⟨rfl, hb⟩; have HB := Lib.hid hb; clear hb; replace HYS := Lib.hid (HYS.out.below HB.out)))
  go_ret
  exact ⟨rfl, HYS.out.g⟩
end Go.Proofs.Ytcgdbjojjpoegaa.P

