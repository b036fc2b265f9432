import Derived.Test.YtfhmepdbbhcncaaE12
namespace Go.Proofs.Ytfhmepdbbhcncaa.P
open Go.RowKit Go.Shelf Go.Proofs.YtfhmepdbbhcncaaW.PrintWords Go.Proofs.YtfhmepdbbhcncaaW.PrintLast Go.Proofs.YtfhmepdbbhcncaaW.PrintMore Go.Proofs.YtfhmepdbbhcncaaM Go.Proofs.YtfhmepdbbhcncaaR
set_option linter.unusedVariables false
set_option linter.unusedSimpArgs false

theorem C_nil (w : World) : Kd.C (Kd.int .i64) w none 0 [] := (Kd.R_reads' (Kd.R_nil (Kd.int .i64) 3 w 0 (fun _ => True))).2.2

def arrL (n : Int) (l : List S58) (sv st : Int) : List Int := if openE n l sv st [] = 0 then (runC soonF (fun _ => true) n l sv st).1.take n.toNat else []

theorem below_grown {w W W' : World} {row : Option Nat} (h : Below w.heap.size w W) (hg : W.grownBy W' row) (hr : ∀ r, row = some r → w.heap.size ≤ r) : Below w.heap.size w W' :=
  ⟨hg.os.trans h.os, hg.tape.trans h.tape, hg.output.trans h.output, Nat.le_trans h.size hg.size, fun k hk => (hg.block k (Nat.lt_of_lt_of_le hk h.size) (fun e => by have := hr _ e.symm; omega)).trans (h.block k hk)⟩

set_option maxHeartbeats 4000000 in
set_option maxRecDepth 100000 in
theorem arrivals_calls (n : Int) (A : Option Addr) (c : Nat) (l : List S58) (sv st : Int) (w : World) (hr : Kd.C k58 w A l.length l) :
    Calls Try.prog 22 #[.agg #[.int .i64 n, .slice A l.length c], .agg #[.int .i64 sv, .int .i64 st]] w fun e w' => ∃ v0, e = .returned (.tuple #[v0, .int .i64 (openE n l sv st [])]) ∧ Kd.R (Kd.int .i64) 2 w' w.heap.size (fun _ => True) v0 (arrL n l sv st) ∧ Below w.heap.size w w' := by
  have hbx := boxes2 w (.cells #[.int .i64 n, .slice A l.length c] 24) (.cells #[.int .i64 sv, .int .i64 st] 26)
  have hrx := Kd.C_below hr hbx
  have HR := Lib.hid hr
  clear hr
  rcases Classical.em (openE n l sv st [] = 0) with hE | hE
  · have HO := Lib.hid (open_ok n A c l sv st none 0 [] ((w.alloc (.cells #[.int .i64 n, .slice A l.length c] 24)).alloc (.cells #[.int .i64 sv, .int .i64 st] 26)) hrx (C_nil _) hE)
    have HE := Lib.hid hE
    have HX := Lib.hid hbx
    have B0 : Blk ((w.alloc (.cells #[.int .i64 n, .slice A l.length c] 24)).alloc (.cells #[.int .i64 sv, .int .i64 st] 26)) w.heap.size 24 #[.int .i64 n, .slice A l.length c] := (Blk.new w _ 24).alloc _
    have hsz : ((w.alloc (.cells #[.int .i64 n, .slice A l.length c] 24)).alloc (.cells #[.int .i64 sv, .int .i64 st] 26)).heap.size = w.heap.size + 2 := by simp
    have HB0 := Lib.hid B0
    have HSZ := Lib.hid hsz
    clear hE hbx hrx B0 hsz
    go_enter Try.func22, Try.ntmps22
    go_upto_region 4 with (go_at_call 52; refine (HO.out).mono ?_; rintro e w' ⟨w1, hb1, rfl, rfl⟩; have HB1 := Lib.hid hb1; clear hb1)
    obtain ⟨hy, hsv, hsv2, hst, hst2, _⟩ := openOK HE.out
    have hsz1 : w.heap.size + 2 ≤ w1.heap.size := by have := HB1.out.size; rw [HSZ.out] at this; exact this
    have hb2 : Below (w.heap.size + 2) ((w.alloc (.cells #[.int .i64 n, .slice A l.length c] 24)).alloc (.cells #[.int .i64 sv, .int .i64 st] 26)) (w1.alloc (.cells (searchCells n (.slice A l.length c) sv st) 96)) := by rw [← HSZ.out]; exact HB1.out.alloc HB1.out.size _
    have HB2 := Lib.hid hb2
    have B1 := HB0.out.below hb2 (by omega)
    have hB : Below w.heap.size w (w1.alloc (.cells (searchCells n (.slice A l.length c) sv st) 96)) := HX.out.trans (hb2.mono (by omega))
    have HS := opened w1 n (.slice A l.length c) sv st
    have HRUN := Lib.hid (run_any soonF 55 (.inl ⟨rfl, rfl⟩) n A c l sv st _ _ w1.heap.size w _ HS hy hsv hsv2 HR.out (by omega) hB.block)
    generalize w1.alloc (.cells (searchCells n (.slice A l.length c) sv st) 96) = W1 at *
    have HY := Lib.hid hy
    have HB1' := Lib.hid B1
    have HBB := Lib.hid hB
    have hBlt := HS.lt
    clear hb2 B1 hB HS hy
    go_upto_region 5 with (go_at_call 61; refine (HRUN.out).mono ?_; rintro e W2 ⟨M, N, ⟨ve, rfl⟩, hS2, hM2, hg2, hM⟩; have HS2 := Lib.hid hS2; have HG2 := Lib.hid hg2; clear hS2 hM2 hg2)
    obtain ⟨W2d, e2⟩ : ∃ W2d, W2.drew = W2d := ⟨_, rfl⟩
    have g2 : W2.grownBy W2d none := by rw [← e2]; exact grown_of_below (below_drew (Below.refl W2.heap.size W2)) none
    have HS3 := HS2.out.kept g2 (by simp)
    have HB3 := (HB1'.out.kept HG2.out (by simp; omega)).kept g2 (by simp)
    have hcn : W2d.cell? ⟨w.heap.size, 0, none⟩ = some (.int .i64 n) := HB3.cell 0
    have hn1 := HY.out.n1
    have hn2 := HY.out.n2
    have hn0 : 0 ≤ n := by omega
    refine wp_region_still_tail 6 (by kernel_rfl) (by kernel_rfl) ?_
    simp only [List.take_succ_cons, List.take_zero, List.drop_succ_cons, List.drop_zero]
    generalize hzz : ({ heap := W2.heap, tape := W2.tape, drawn := W2.drawn + 1, os := W2.os, output := W2.output } : World) = Wz
    have hz1 : Wz = W2d := hzz.symm.trans e2
    subst hz1
    clear hzz
    repeat still_step
    refine wpStill_nil ?_
    have hlen : ((runC soonF (fun _ => true) n l sv st).1.take n.toNat).length = n.toNat := by rw [List.length_take, runC_len]; omega
    have hcl := clone63 w1.heap.size 4 20 ((runC soonF (fun _ => true) n l sv st).1.take n.toNat) Wz (by omega) (by omega) (fun j hj => by
      have h1 := HS3.cm j (by omega)
      rw [List.getD_eq_getElem?_getD, List.getElem?_eq_getElem (by rw [runC_len]; omega)] at h1
      rw [List.getElem_take]
      exact h1)
    rw [hlen] at hcl
    have HCL := Lib.hid hcl
    clear hcl
    go_wp2_with (go_at_call 63; refine (HCL.out).mono ?_; rintro e W4 ⟨b', cap, rfl, hb', hrow, hb4⟩; have HROW := Lib.hid hrow; have HB4 := Lib.hid hb4; clear hrow hb4)
    go_ret2
    have hw2 : Below w.heap.size w Wz := below_grown (below_grown HBB.out HG2.out (fun r e => by cases e; omega)) g2 (fun r e => by cases e)
    refine ⟨.slice (some ⟨b', 0, none⟩) n.toNat cap, by rw [HE.out]; rfl, ?_, below_then hw2 hw2.size HB4.out⟩
    rw [arrL, if_pos HE.out]
    have ho := HROW.out.own (base := w.heap.size) (Nat.le_trans hw2.size hb')
    generalize (runC soonF (fun _ => true) n l sv st).1.take n.toNat = zs at ho hlen ⊢
    rw [← hlen]
    exact Kd.R_of_own ho (fun _ _ => trivial)
  · have HO := Lib.hid (open_bad n A c l sv st none 0 [] ((w.alloc (.cells #[.int .i64 n, .slice A l.length c] 24)).alloc (.cells #[.int .i64 sv, .int .i64 st] 26)) hrx (C_nil _) hE)
    obtain ⟨ev, hev⟩ : ∃ ev, openE n l sv st [] = ev := ⟨_, rfl⟩
    rw [hev] at HO hE
    have HEV := Lib.hid hev
    have hne : (ev != 0) = true := by simp [hE]
    have HE := Lib.hid hE
    have HX := Lib.hid hbx
    clear hev hE hbx hrx
    go_enter Try.func22, Try.ntmps22
    go_wp2_with (go_at_call 52; refine (HO.out).mono ?_; rintro e w' ⟨rfl, hb1⟩; have HB1 := Lib.hid hb1; clear hb1)
    go_ret2
    refine ⟨.slice none 0 0, by rw [HEV.out]; rfl, ?_, later2 HB1.out⟩
    rw [arrL, HEV.out, if_neg HE.out]; exact Kd.R_nil _ _ _ _ _
end Go.Proofs.Ytfhmepdbbhcncaa.P
