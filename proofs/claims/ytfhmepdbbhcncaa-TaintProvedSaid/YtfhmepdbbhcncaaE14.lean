import Derived.Test.YtfhmepdbbhcncaaE13
namespace Go.Proofs.Ytfhmepdbbhcncaa.P
open Go.RowKit Go.Shelf Go.Proofs.YtfhmepdbbhcncaaW.PrintWords Go.Proofs.YtfhmepdbbhcncaaW.PrintLast Go.Proofs.YtfhmepdbbhcncaaW.PrintMore Go.Proofs.YtfhmepdbbhcncaaM Go.Proofs.YtfhmepdbbhcncaaR
set_option linter.unusedVariables false
set_option linter.unusedSimpArgs false

def sureT (come : List Int) : Nat → List Int
  | 0 => []
  | k + 1 => if come.getD k 0 = 1048576 then sureT come k else sureT come k ++ [(k : Int)]
theorem sureT_len (come : List Int) : ∀ k, (sureT come k).length ≤ k
  | 0 => Nat.le_refl _
  | k + 1 => by
    have := sureT_len come k
    rw [sureT]; split <;> simp <;> omega
def sureL (n : Int) (l : List S58) (sv st : Int) : List Int := if openE n l sv st [] = 0 then sureT (runC sureF (fun _ => true) n l sv st).1 n.toNat else []
def carT (come : List Int) (l : List S58) : Nat → List Int
  | 0 => []
  | k + 1 => if come.getD (l.getD k z58).f0.toNat 0 ≤ (l.getD k z58).f2.f1 then carT come l k ++ [(k : Int)] else carT come l k
theorem carT_len (come : List Int) (l : List S58) : ∀ k, (carT come l k).length ≤ k
  | 0 => Nat.le_refl _
  | k + 1 => by
    have := carT_len come l k
    rw [carT]; split <;> simp <;> omega
def carL (n : Int) (l : List S58) (sv st : Int) : List Int := if openE n l sv st [] = 0 then carT (runC soonF (fun _ => true) n l sv st).1 l l.length else []

set_option maxHeartbeats 4000000 in
set_option maxRecDepth 100000 in
theorem sure_calls (n : Int) (A : Option Addr) (c : Nat) (l : List S58) (sv st : Int) (w : World) (hr : Kd.C k58 w A l.length l) :
    Calls Try.prog 26 #[.agg #[.int .i64 n, .slice A l.length c], .agg #[.int .i64 sv, .int .i64 st]] w fun e w' => ∃ v0, e = .returned (.tuple #[v0, .int .i64 (openE n l sv st [])]) ∧ Kd.R (Kd.int .i64) 3 w' w.heap.size (fun _ => True) v0 (sureL n l sv st) ∧ Below w.heap.size w w' := by
  have hbx := boxes2 w (.cells #[.int .i64 n, .slice A l.length c] 24) (.cells #[.int .i64 sv, .int .i64 st] 26)
  have hrx := Kd.C_below hr hbx
  have HR := Lib.hid hr
  have hlm := hr.2.1
  clear hr
  rcases Classical.em (openE n l sv st [] = 0) with hE | hE
  · have HO := Lib.hid (open_ok n A c l sv st none 0 [] ((w.alloc (.cells #[.int .i64 n, .slice A l.length c] 24)).alloc (.cells #[.int .i64 sv, .int .i64 st] 26)) hrx (C_nil _) hE)
    have HE := Lib.hid hE
    have HX := Lib.hid hbx
    have B0 : Blk ((w.alloc (.cells #[.int .i64 n, .slice A l.length c] 24)).alloc (.cells #[.int .i64 sv, .int .i64 st] 26)) w.heap.size 24 #[.int .i64 n, .slice A l.length c] := (Blk.new w _ 24).alloc _
    have hsz : ((w.alloc (.cells #[.int .i64 n, .slice A l.length c] 24)).alloc (.cells #[.int .i64 sv, .int .i64 st] 26)).heap.size = w.heap.size + 2 := by simp
    have HB0 := Lib.hid B0
    have HSZ := Lib.hid hsz
    clear hE hbx hrx B0 hsz
    go_enter Try.func26, Try.ntmps26
    go_upto_region 4 with (go_at_call 52; refine (HO.out).mono ?_; rintro e w' ⟨w1, hb1, rfl, rfl⟩; have HB1 := Lib.hid hb1; clear hb1)
    obtain ⟨hy, hsv, hsv2, hst, hst2, _⟩ := openOK HE.out
    have hsz1 : w.heap.size + 2 ≤ w1.heap.size := by have := HB1.out.size; rw [HSZ.out] at this; exact this
    have hb2 : Below (w.heap.size + 2) ((w.alloc (.cells #[.int .i64 n, .slice A l.length c] 24)).alloc (.cells #[.int .i64 sv, .int .i64 st] 26)) (w1.alloc (.cells (searchCells n (.slice A l.length c) sv st) 96)) := by rw [← HSZ.out]; exact HB1.out.alloc HB1.out.size _
    have HB2 := Lib.hid hb2
    have B1 := HB0.out.below hb2 (by omega)
    have hB : Below w.heap.size w (w1.alloc (.cells (searchCells n (.slice A l.length c) sv st) 96)) := HX.out.trans (hb2.mono (by omega))
    have HS := opened w1 n (.slice A l.length c) sv st
    have HRUN := Lib.hid (run_any sureF 56 (.inr ⟨rfl, rfl⟩) n A c l sv st _ _ w1.heap.size w _ HS hy hsv hsv2 HR.out (by omega) hB.block)
    generalize w1.alloc (.cells (searchCells n (.slice A l.length c) sv st) 96) = W1 at *
    have HY := Lib.hid hy
    have HB1' := Lib.hid B1
    have HBB := Lib.hid hB
    have hBlt := HS.lt
    clear hb2 B1 hB HS hy
    go_upto_region 6 with (go_at_call 61; refine (HRUN.out).mono ?_; rintro e W2 ⟨M, N, ⟨ve, rfl⟩, hS2, hM2, hg2, hM⟩; have HS2 := Lib.hid hS2; have HG2 := Lib.hid hg2; clear hS2 hM2 hg2)
    have hn1 := HY.out.n1
    have hn2 := HY.out.n2
    have hn0 : 0 ≤ n := by omega
    have hlenl := HY.out.len
    obtain ⟨W2d, e2⟩ : ∃ W2d, W2.drew = W2d := ⟨_, rfl⟩
    have g2 : W2.grownBy W2d none := by rw [← e2]; exact grown_of_below (below_drew (Below.refl W2.heap.size W2)) none
    have HS3 := HS2.out.kept g2 (by simp)
    have HB3 := (HB1'.out.kept HG2.out (by simp; omega)).kept g2 (by simp)
    have hcn : W2d.cell? ⟨w.heap.size, 0, none⟩ = some (.int .i64 n) := HB3.cell 0
    have hw2 := Lib.hid (show Below w.heap.size w W2d from below_grown (below_grown HBB.out HG2.out (fun r e => by cases e; omega)) g2 (fun r e => by cases e))
    refine wp_region_still_lit (by kernel_rfl) (by kernel_rfl) ?_
    generalize hzz : ({ heap := W2.heap, tape := W2.tape, drawn := W2.drawn + 1, os := W2.os, output := W2.output } : World) = Wz
    have hz1 : Wz = W2d := hzz.symm.trans e2
    subst hz1
    clear hzz
    repeat still_step
    refine wpStill_nil ?_
    clear e2 g2
    go_wp2_with fail
    go_loopg [8, 31] n.toNat (fun kq v8 v31 w' => ∃ (k : Nat), v31 = .int .i64 k ∧ Aside0 (k + kq = n.toNat) ∧ Aside0 (Kd.R (Kd.int .i64) 3 w' Wz.heap.size (fun _ => True) v8 (sureT (runC sureF (fun _ => true) n l sv st).1 k)) ∧ Aside0 (Below Wz.heap.size Wz w'))
    case atStart => exact ⟨0, rfl, ⟨by omega⟩, ⟨Kd.R_nil _ _ _ _ _⟩, ⟨Below.refl _ _⟩⟩
    case round =>
      obtain ⟨k, rfl, HN, HL2, HB2⟩ := hrel
      have HS4 := HS3.below HB2.out HS3.lt
      cases gk with
      | succ k1 =>
        have hlt : (k : Int) < n := by have := HN.out; omega
        have hk20 : k < 20 := by omega
        have hlt2 : k < n.toNat := by omega
        have hc := HS4.cm k hk20
        have HLEN := Aside0.mk (sureT_len (runC sureF (fun _ => true) n l sv st).1 k)
        obtain ⟨t, ht⟩ : ∃ t, (runC sureF (fun _ => true) n l sv st).1.getD k 0 = t := ⟨_, rfl⟩
        rw [ht] at hc
        have HT := Lib.hid ht
        clear ht HS4
        have hl4 : decide ((k : Int) < n) = true := decide_eq_true hlt
        by_cases hne : t = 1048576
        · have hq : (t != 1048576) = false := by simp [hne]
          have HQ := Lib.hid hne
          clear hne
          go_wp2_with fail
          go_roundg k1
          case rel => exact ⟨k + 1, by go_num, ⟨by have := HN.out; omega⟩, ⟨by rw [sureT, HT.out, if_pos HQ.out]; exact HL2.out⟩, HB2⟩
          case measure => omega
        · have hq : (t != 1048576) = true := by simp [hne]
          have HQ := Lib.hid hne
          clear hne
          go_wp2_with ((with_reducible refine gate_builtin (b := .append) (xs := #[.tmp 38, .tmp 40]) rfl ?_); at_builtin; refine Kd.R_append (Kd.int .i64) (w0 := Wz) Wz.heap.size rfl (.tmp 38) (.tmp 40) 27 3 (.int .i64 0) 8 rfl Try.underlying27 info3 rfl (by decide) (by omega) u8 (sureT (runC sureF (fun _ => true) n l sv st).1 k) (k : Int) [.int .i64 (k : Int)] (fun _ => True) (fun _ => False) rfl rfl ?aP (fun _ hk => hk.elim) ?aF ?aO ?aB ?aS ?aL ?_; (case aP => exact rfl); (case aB => exact HB2.out); (case aF => exact (fun _ _ => trivial)); (case aO => exact HL2.out); (case aS => exact HB2.out.size); (case aL => have := HLEN.out; omega); intro v7 w24 ho hb hg hat; have HO7 := Aside0.mk ho; have HB7 := Aside0.mk hb; clear ho hb hg hat)
          go_roundg k1
          case rel => exact ⟨k + 1, by go_num, ⟨by have := HN.out; omega⟩, ⟨by rw [sureT, HT.out, if_neg HQ.out]; exact HO7.out⟩, HB7⟩
          case measure => omega
      | zero =>
        have hk : k = n.toNat := by have := HN.out; omega
        have hl4 : decide ((k : Int) < n) = false := decide_eq_false (by omega)
        clear HS4
        go_wp2_with fail
        go_ret2
        refine ⟨_, by rw [HE.out]; rfl, ?_, below_then hw2.out hw2.out.size HB2.out⟩
        rw [sureL, if_pos HE.out, ← hk]
        exact Kd.R_lower HL2.out hw2.out.size
  · have HO := Lib.hid (open_bad n A c l sv st none 0 [] ((w.alloc (.cells #[.int .i64 n, .slice A l.length c] 24)).alloc (.cells #[.int .i64 sv, .int .i64 st] 26)) hrx (C_nil _) hE)
    obtain ⟨ev, hev⟩ : ∃ ev, openE n l sv st [] = ev := ⟨_, rfl⟩
    rw [hev] at HO hE
    have HEV := Lib.hid hev
    have hne : (ev != 0) = true := by simp [hE]
    have HE := Lib.hid hE
    have HX := Lib.hid hbx
    clear hev hE hbx hrx
    go_enter Try.func26, Try.ntmps26
    go_wp2_with (go_at_call 52; refine (HO.out).mono ?_; rintro e w' ⟨rfl, hb1⟩; have HB1 := Lib.hid hb1; clear hb1)
    go_ret2
    refine ⟨.slice none 0 0, by rw [HEV.out]; rfl, ?_, later2 HB1.out⟩
    rw [sureL, HEV.out, if_neg HE.out]; exact Kd.R_nil _ _ _ _ _

set_option maxHeartbeats 4000000 in
set_option maxRecDepth 100000 in
theorem carried_calls (n : Int) (A : Option Addr) (c : Nat) (l : List S58) (sv st : Int) (w : World) (hr : Kd.C k58 w A l.length l) :
    Calls Try.prog 24 #[.agg #[.int .i64 n, .slice A l.length c], .agg #[.int .i64 sv, .int .i64 st]] w fun e w' => ∃ v0, e = .returned (.tuple #[v0, .int .i64 (openE n l sv st [])]) ∧ Kd.R (Kd.int .i64) 3 w' w.heap.size (fun _ => True) v0 (carL n l sv st) ∧ Below w.heap.size w w' := by
  have hbx := boxes2 w (.cells #[.int .i64 n, .slice A l.length c] 24) (.cells #[.int .i64 sv, .int .i64 st] 26)
  have hrx := Kd.C_below hr hbx
  have HR := Lib.hid hr
  have hlm := hr.2.1
  clear hr
  rcases Classical.em (openE n l sv st [] = 0) with hE | hE
  · have HO := Lib.hid (open_ok n A c l sv st none 0 [] ((w.alloc (.cells #[.int .i64 n, .slice A l.length c] 24)).alloc (.cells #[.int .i64 sv, .int .i64 st] 26)) hrx (C_nil _) hE)
    have HE := Lib.hid hE
    have HX := Lib.hid hbx
    have B0 : Blk ((w.alloc (.cells #[.int .i64 n, .slice A l.length c] 24)).alloc (.cells #[.int .i64 sv, .int .i64 st] 26)) w.heap.size 24 #[.int .i64 n, .slice A l.length c] := (Blk.new w _ 24).alloc _
    have hsz : ((w.alloc (.cells #[.int .i64 n, .slice A l.length c] 24)).alloc (.cells #[.int .i64 sv, .int .i64 st] 26)).heap.size = w.heap.size + 2 := by simp
    have HB0 := Lib.hid B0
    have HSZ := Lib.hid hsz
    clear hE hbx hrx B0 hsz
    go_enter Try.func24, Try.ntmps24
    go_upto_region 4 with (go_at_call 52; refine (HO.out).mono ?_; rintro e w' ⟨w1, hb1, rfl, rfl⟩; have HB1 := Lib.hid hb1; clear hb1)
    obtain ⟨hy, hsv, hsv2, hst, hst2, _⟩ := openOK HE.out
    have hsz1 : w.heap.size + 2 ≤ w1.heap.size := by have := HB1.out.size; rw [HSZ.out] at this; exact this
    have hb2 : Below (w.heap.size + 2) ((w.alloc (.cells #[.int .i64 n, .slice A l.length c] 24)).alloc (.cells #[.int .i64 sv, .int .i64 st] 26)) (w1.alloc (.cells (searchCells n (.slice A l.length c) sv st) 96)) := by rw [← HSZ.out]; exact HB1.out.alloc HB1.out.size _
    have HB2 := Lib.hid hb2
    have B1 := HB0.out.below hb2 (by omega)
    have hB : Below w.heap.size w (w1.alloc (.cells (searchCells n (.slice A l.length c) sv st) 96)) := HX.out.trans (hb2.mono (by omega))
    have HS := opened w1 n (.slice A l.length c) sv st
    have HRUN := Lib.hid (run_any soonF 55 (.inl ⟨rfl, rfl⟩) n A c l sv st _ _ w1.heap.size w _ HS hy hsv hsv2 HR.out (by omega) hB.block)
    generalize w1.alloc (.cells (searchCells n (.slice A l.length c) sv st) 96) = W1 at *
    have HY := Lib.hid hy
    have HB1' := Lib.hid B1
    have HBB := Lib.hid hB
    have hBlt := HS.lt
    clear hb2 B1 hB HS hy
    go_upto_region 6 with (go_at_call 61; refine (HRUN.out).mono ?_; rintro e W2 ⟨M, N, ⟨ve, rfl⟩, hS2, hM2, hg2, hM⟩; have HS2 := Lib.hid hS2; have HG2 := Lib.hid hg2; clear hS2 hM2 hg2)
    have hn1 := HY.out.n1
    have hn2 := HY.out.n2
    have hn0 : 0 ≤ n := by omega
    have hlenl := HY.out.len
    have hlr := Lib.hid (show Kd.C k58 W2 A l.length l from hp58.C (fun q hq => (HG2.out.block q (by have := HBB.out.size; omega) (by simp; omega)).trans (HBB.out.block q hq)) HR.out)
    have hw2 := Lib.hid (show Below w.heap.size w W2 from below_grown HBB.out HG2.out (fun r e => by cases e; omega))
    have HB3 := HB1'.out.kept HG2.out (by simp; omega)
    have hcl : W2.cell? ⟨w.heap.size, 1, none⟩ = some (.slice A l.length c) := HB3.cell 1
    clear HB3
    go_wp2_with fail
    go_loopg [8, 29] l.length (fun kq v8 v29 w' => ∃ (k : Nat), v29 = .int .i64 k ∧ Aside0 (k + kq = l.length) ∧ Aside0 (OutV w' W2.heap.size v8 (carT (runC soonF (fun _ => true) n l sv st).1 l k)) ∧ Aside0 (Below W2.heap.size W2 w'))
    case atStart => exact ⟨0, rfl, ⟨by omega⟩, ⟨.inl ⟨rfl, rfl⟩⟩, ⟨Below.refl _ _⟩⟩
    case round =>
      obtain ⟨k, rfl, HN, HL2, HB2w⟩ := hrel
      cases gk with
      | succ k1 =>
        have hlt : k < l.length := by have := HN.out; omega
        have hl4 : decide ((k : Int) < (l.length : Int)) = true := decide_eq_true (by omega)
        have hl5 : decide (k < l.length) = true := decide_eq_true hlt
        have hC := Kd.C_below hlr.out HB2w.out
        obtain ⟨ad, e0, hc0, hc1, hc2, hc3⟩ := at_T58 hC (k : Int) (by omega) (by omega)
        cases e0
        have hmem : rd_T58 l (k : Int) ∈ l := by rw [rd_T58_nat l k hlt]; exact List.getElem_mem hlt
        have hgd : l.getD k z58 = rd_T58 l (k : Int) := by simp [rd_T58]
        have HM := HY.out.mv _ hmem
        have HCT := Lib.hid (show carT (runC soonF (fun _ => true) n l sv st).1 l (k + 1) = if (runC soonF (fun _ => true) n l sv st).1.getD (rd_T58 l (k : Int)).f0.toNat 0 ≤ (rd_T58 l (k : Int)).f2.f1 then carT (runC soonF (fun _ => true) n l sv st).1 l k ++ [(k : Int)] else carT (runC soonF (fun _ => true) n l sv st).1 l k by rw [carT, hgd])
        rw [Int.toNat_natCast] at hc0 hc1 hc2 hc3
        clear hC hmem hgd
        generalize rd_T58 l (k : Int) = m at *
        obtain ⟨hm1, hm2, _⟩ := HM
        go_upto_region 9 with (fail)
        have hbw : Below W2.heap.size W2 (wr.alloc (.cells #[.int .i64 m.f0, .int .i64 m.f1, .int .i64 m.f2.f0, .int .i64 m.f2.f1] 58)) := HB2w.out.alloc HB2w.out.size _
        have hbk := Blk.new wr #[.int .i64 m.f0, .int .i64 m.f1, .int .i64 m.f2.f0, .int .i64 m.f2.f1] 58
        have ho2 := HL2.out.kept (World.grownBy_alloc wr (.cells #[.int .i64 m.f0, .int .i64 m.f1, .int .i64 m.f2.f0, .int .i64 m.f2.f1] 58) none) (fun r e => by cases e)
        generalize wr.heap.size = bM at *
        generalize wr.alloc (.cells #[.int .i64 m.f0, .int .i64 m.f1, .int .i64 m.f2.f0, .int .i64 m.f2.f1] 58) = W3 at *
        clear hc0 hc1 hc2 hc3 HL2 HB2w
        have HS3 := HS2.out.below hbw HS2.out.lt
        have hc := HS3.cm m.f0.toNat (by omega)
        obtain ⟨t, ht⟩ : ∃ t, (runC soonF (fun _ => true) n l sv st).1.getD m.f0.toNat 0 = t := ⟨_, rfl⟩
        rw [ht] at hc
        have HT := Lib.hid ht
        clear ht HS3
        have hm20 : m.f0 < 20 := by omega
        have g0 := cell_regrown (show W3.cell? ⟨bM, 0, none⟩ = some (.int .i64 m.f0) from hbk.cell 0)
        have g1 := cell_regrown (show W3.cell? ⟨bM, 1, none⟩ = some (.int .i64 m.f1) from hbk.cell 1)
        have g2 := cell_regrown (show W3.cell? ⟨bM, 2, none⟩ = some (.int .i64 m.f2.f0) from hbk.cell 2)
        have g3 := cell_regrown (show W3.cell? ⟨bM, 3, none⟩ = some (.int .i64 m.f2.f1) from hbk.cell 3)
        have gc := cell_regrown hc
        have HCS := Lib.hid (fun (X : World) => soonest_calls t m X)
        have e58 : enc58 m = .agg #[.int .i64 m.f0, .int .i64 m.f1, .int .i64 m.f2.f0, .int .i64 m.f2.f1] := rfl
        rw [e58] at HCS
        have hbw' := Lib.hid hbw
        have ho2' := Lib.hid ho2
        clear hbw hbk hc ho2 e58
        cases hok : decide (t ≤ m.f2.f1) with
        | true =>
          have HOK := Lib.hid (of_decide_eq_true hok)
          rw [hok] at HCS
          clear hok
          refine wp_region_quiet_below (by kernel_rfl) (by kernel_rfl) ?_
          repeat (go_big_quiet_step ((go_at_call 55; exact Calls.regrown_of (HCS.out _))))
          refine wpQuiet_nil ?_
          intro _ hw'
          obtain ⟨⟨dq, osq⟩, hw''⟩ := hw'
          subst hw''
          clear g0 g1 g2 g3 gc
          have hb4 := below_regrown W3 dq osq
          have HB4 := Lib.hid (below_then hbw'.out hbw'.out.size hb4)
          have ho4 := ho2'.out.kept (grown_of_below hb4 none) (fun r e => by cases e)
          clear hb4
          generalize Go.«Sort».grow (redrawn W3 dq) osq = W4 at *
          obtain ⟨A', c', rfl, hc', v', W5, hap, hov, hg5⟩ := grow27 ho4 (by have := carT_len (runC soonF (fun _ => true) n l sv st).1 l k; omega) (k : Int)
          have hcut := cut_full_27 A' (carT (runC soonF (fun _ => true) n l sv st).1 l k).length c' hc'
          have HOV := Lib.hid hov
          have HG5 := Lib.hid hg5
          clear hov hg5 ho4
          go_wp2_with ((with_reducible refine gate_builtin (b := .append) (xs := #[.tmp 52, .tmp 54]) rfl ?_); at_builtin; refine append_run rfl (.tmp 52) (.tmp 54) 27 rfl _ _ v' W5 rfl rfl hap ?_)
          go_roundg k1
          case rel => exact ⟨k + 1, by go_num, ⟨by have := HN.out; omega⟩, ⟨by rw [HCT.out, if_pos (by rw [HT.out]; exact HOK.out)]; exact HOV.out.lower HB4.out.size⟩, ⟨below_grown HB4.out HG5.out (fun r e => by cases e)⟩⟩
          case measure => omega
        | false =>
          have HOK := Lib.hid (of_decide_eq_false hok)
          rw [hok] at HCS
          clear hok
          refine wp_region_quiet_below (by kernel_rfl) (by kernel_rfl) ?_
          repeat (go_big_quiet_step ((go_at_call 55; exact Calls.regrown_of (HCS.out _))))
          refine wpQuiet_nil ?_
          intro _ hw'
          obtain ⟨⟨dq, osq⟩, hw''⟩ := hw'
          subst hw''
          clear g0 g1 g2 g3 gc
          have hb4 := below_regrown W3 dq osq
          have HB4 := Lib.hid (below_then hbw'.out hbw'.out.size hb4)
          have ho4 := Lib.hid (ho2'.out.kept (grown_of_below hb4 none) (fun r e => by cases e))
          clear hb4
          go_wp2_with fail
          go_roundg k1
          case rel => exact ⟨k + 1, by go_num, ⟨by have := HN.out; omega⟩, ⟨by rw [HCT.out, if_neg (by rw [HT.out]; have := HOK.out; omega)]; exact ho4.out⟩, ⟨HB4.out⟩⟩
          case measure => omega
      | zero =>
        have hk : k = l.length := by have := HN.out; omega
        have hl4 : decide ((k : Int) < (l.length : Int)) = false := decide_eq_false (by omega)
        have hl5 : decide (k < l.length) = false := decide_eq_false (by omega)
        go_wp2_with fail
        go_ret2
        refine ⟨_, by rw [HE.out]; rfl, ?_, below_then hw2.out hw2.out.size HB2w.out⟩
        rw [carL, if_pos HE.out, ← hk]
        exact Kd.R_lower HL2.out.own hw2.out.size
  · have HO := Lib.hid (open_bad n A c l sv st none 0 [] ((w.alloc (.cells #[.int .i64 n, .slice A l.length c] 24)).alloc (.cells #[.int .i64 sv, .int .i64 st] 26)) hrx (C_nil _) hE)
    obtain ⟨ev, hev⟩ : ∃ ev, openE n l sv st [] = ev := ⟨_, rfl⟩
    rw [hev] at HO hE
    have HEV := Lib.hid hev
    have hne : (ev != 0) = true := by simp [hE]
    have HE := Lib.hid hE
    have HX := Lib.hid hbx
    clear hev hE hbx hrx
    go_enter Try.func24, Try.ntmps24
    go_wp2_with (go_at_call 52; refine (HO.out).mono ?_; rintro e w' ⟨rfl, hb1⟩; have HB1 := Lib.hid hb1; clear hb1)
    go_ret2
    refine ⟨.slice none 0 0, by rw [HEV.out]; rfl, ?_, later2 HB1.out⟩
    rw [carL, HEV.out, if_neg HE.out]; exact Kd.R_nil _ _ _ _ _
end Go.Proofs.Ytfhmepdbbhcncaa.P
