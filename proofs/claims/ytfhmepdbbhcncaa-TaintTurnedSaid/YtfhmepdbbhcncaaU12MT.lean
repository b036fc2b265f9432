import Derived.Test.YtfhmepdbbhcncaaMT4
namespace Go.Proofs.Ytfhmepdbbhcncaa.P
open Go.RowKit Go.Shelf Go.Proofs.YtfhmepdbbhcncaaW.PrintWords Go.Proofs.YtfhmepdbbhcncaaW.PrintLast Go.Proofs.YtfhmepdbbhcncaaW.PrintMore Go.Proofs.YtfhmepdbbhcncaaM Go.Proofs.YtfhmepdbbhcncaaR
set_option linter.unusedVariables false
set_option linter.unusedSimpArgs false
set_option maxRecDepth 100000

def forecourtlaw05_TaintTurned.T10 : Bool × List (List Nat × List Nat) := (true, [([], []), ([0], [0]), ([], []), ([2], [2]), ([], []), ([4], [4]), ([], []), ([6], [6]), ([7], [7]), ([], []), ([9], [9]), ([8, 10], [8, 10]), ([], []), ([12], [12]), ([13], [13]), ([], []), ([15], [15]), ([14, 16], [14, 16]), ([3, 5, 11, 17], [3, 5, 11, 17]), ([18], [18]), ([1, 19, 18], [1, 19]), ([0, 1, 2, 3, 4, 5, 6, 7, 8, 9, 10, 11, 12, 13, 14, 15, 16, 17, 18, 19, 20], []), ([21, 20, 20, 0, 1, 2, 3, 4, 5, 6, 7, 8, 9, 10, 11, 12, 13, 14, 15, 16, 17, 18, 19, 20], [20, 21])])
def forecourtlaw05_TaintTurned.B10 : List Nat := [0, 1, 0, 4, 0, 16, 0, 64, 192, 0, 512, 1984, 0, 4096, 12288, 0, 32768, 126976, 262140, 524284, 1048575, 2097151, 4194303]
theorem forecourtlaw05_TaintTurned.tab10 : rtab .any (opsOf Try.f12 10) = forecourtlaw05_TaintTurned.T10 := by kernel_rfl
theorem forecourtlaw05_TaintTurned.bits10 : waitsOk forecourtlaw05_TaintTurned.T10.2 forecourtlaw05_TaintTurned.B10 = true := by kernel_rfl
def forecourtlaw05_TaintTurned.T11 : Bool × List (List Nat × List Nat) := (true, [([], []), ([0], [0]), ([], []), ([2], [2]), ([], []), ([4], [4]), ([3, 5], [3, 5]), ([], []), ([6, 7], [6, 7]), ([], []), ([9], [9]), ([], []), ([11], [11]), ([10, 12], [10, 12]), ([], []), ([13, 14], [13, 14]), ([], []), ([16], [16]), ([17], [17]), ([], []), ([19], [19]), ([20], [20]), ([8, 15, 18, 21], [8, 15, 18, 21]), ([22], [22]), ([1, 23, 22], [1, 23]), ([0, 1, 2, 3, 4, 5, 6, 7, 8, 9, 10, 11, 12, 13, 14, 15, 16, 17, 18, 19, 20, 21, 22, 23, 24], []), ([25, 24, 24, 0, 1, 2, 3, 4, 5, 6, 7, 8, 9, 10, 11, 12, 13, 14, 15, 16, 17, 18, 19, 20, 21, 22, 23, 24], [24, 25])])
def forecourtlaw05_TaintTurned.B11 : List Nat := [0, 1, 0, 4, 0, 16, 60, 0, 252, 0, 512, 0, 2048, 7680, 0, 32256, 0, 65536, 196608, 0, 524288, 1572864, 4194300, 8388604, 16777215, 33554431, 67108863]
theorem forecourtlaw05_TaintTurned.tab11 : rtab .any (opsOf Try.f12 11) = forecourtlaw05_TaintTurned.T11 := by kernel_rfl
theorem forecourtlaw05_TaintTurned.bits11 : waitsOk forecourtlaw05_TaintTurned.T11.2 forecourtlaw05_TaintTurned.B11 = true := by kernel_rfl
def forecourtlaw05_TaintTurned.T18 : Bool × List (List Nat × List Nat) := (true, [([], []), ([0], [0]), ([], []), ([2], [2]), ([1, 3], [1, 3]), ([], []), ([4, 5], [4, 5]), ([], []), ([7], [7]), ([6, 8], [6, 8]), ([], []), ([10, 9, 9, 0, 1, 2, 3, 4, 5, 6, 7, 8, 9, 10], [9, 10])])
def forecourtlaw05_TaintTurned.B18 : List Nat := [0, 1, 0, 4, 15, 0, 63, 0, 128, 511, 0, 2047]
theorem forecourtlaw05_TaintTurned.tab18 : rtab .any (opsOf Try.f12 18) = forecourtlaw05_TaintTurned.T18 := by kernel_rfl
theorem forecourtlaw05_TaintTurned.bits18 : waitsOk forecourtlaw05_TaintTurned.T18.2 forecourtlaw05_TaintTurned.B18 = true := by kernel_rfl
def forecourtlaw05_TaintTurned.T22 : Bool × List (List Nat × List Nat) := (true, [([], []), ([], []), ([], []), ([], []), ([3], [3]), ([2, 4], [2, 4]), ([], []), ([5, 6], [5, 6]), ([0, 1, 7], [0, 1, 7]), ([8], [8]), ([9], [9]), ([9], [9]), ([10, 8, 0, 1, 2, 3, 4, 5, 6, 7, 8, 9, 10], [10]), ([11, 12, 0, 1, 2, 3, 4, 5, 6, 7, 8, 9, 10, 11, 12], [11])])
def forecourtlaw05_TaintTurned.B22 : List Nat := [0, 0, 0, 0, 8, 28, 0, 124, 255, 511, 1023, 1023, 2047, 8191]
theorem forecourtlaw05_TaintTurned.tab22 : rtab .any (opsOf Try.f12 22) = forecourtlaw05_TaintTurned.T22 := by kernel_rfl
theorem forecourtlaw05_TaintTurned.bits22 : waitsOk forecourtlaw05_TaintTurned.T22.2 forecourtlaw05_TaintTurned.B22 = true := by kernel_rfl
/-- What is read all along. -/
structure QV (w W : World) (gy gs gx gz : Nat) (n sv st : Int) (A : Option Addr) (c : Nat) (l : List S58) (Ax : Option Addr) (cx : Nat) (xl : List S58) (Az : Option Addr) (cz : Nat) (zl : List S58) : Prop where
  y : W.heap[gy]? = some (.cells #[.int .i64 n, .slice A l.length c] 24 (0, 0))
  s : W.heap[gs]? = some (.cells #[.int .i64 sv, .int .i64 st] 26 (0, 0))
  x : W.heap[gx]? = some (.cells #[.int .i64 n, .slice Ax xl.length cx] 24 (0, 0))
  z : W.heap[gz]? = some (.cells #[.int .i64 n, .slice Az zl.length cz] 24 (0, 0))
  C : Kd.C k58 W A l.length l
  hc : l.length ≤ c
  X : Rd k58 W Ax xl.length cx xl
  Z : Rd k58 W Az zl.length cz zl
  g : Below w.heap.size w W
theorem QV.below {w W W' : World} {gy gs gx gz : Nat} {n sv st : Int} {A : Option Addr} {c : Nat} {l : List S58} {Ax : Option Addr} {cx : Nat} {xl : List S58} {Az : Option Addr} {cz : Nat} {zl : List S58} (h : QV w W gy gs gx gz n sv st A c l Ax cx xl Az cz zl) (hb : Below W.heap.size W W') : QV w W' gy gs gx gz n sv st A c l Ax cx xl Az cz zl :=
  ⟨blk_below h.y hb, blk_below h.s hb, blk_below h.x hb, blk_below h.z hb, Kd.C_below h.C hb, h.hc, h.X.below hb, h.Z.below hb, below_then h.g h.g.size hb⟩
set_option maxHeartbeats 8000000 in
set_option maxRecDepth 100000 in
theorem turnedW (a0_0 : Int) (A0_1 : Option Addr) (c0_1 : Nat) (l0_1 : List (S58)) (a1_0 a1_1 a2 a3 a4 : Int) (w : World) (hr0_1 : Kd.C k58 w A0_1 l0_1.length l0_1) (hc0_1 : l0_1.length ≤ c0_1) (h2 : 0 ≤ a2 ∧ a2 ≤ 4294967295) (h3 : 0 ≤ a3 ∧ a3 ≤ 255) (h4 : 0 ≤ a4 ∧ a4 ≤ 255) :
    Calls Try.prog 12 #[.agg #[.int .i64 a0_0, .slice A0_1 l0_1.length c0_1], .agg #[.int .i64 a1_0, .int .i64 a1_1], .int .u32 a2, .int .u8 a3, .int .u8 a4] w fun e w' => e = .returned (.bool true) ∧ Below w.heap.size w w' := by
  have hu24 := Try.underlying24
  have hu26 := Try.underlying26
  have hu58 := Try.underlying58
  have hfe := fine_eq a0_0 l0_1 a1_0 a1_1 3000 (by omega)
  obtain ⟨F, hF⟩ : ∃ F, (decide ((l0_1.length : Int) ≤ 50) && decide (openE a0_0 l0_1 a1_0 a1_1 [] = 0)) = F := ⟨_, rfl⟩
  rw [hF] at hfe
  cases F with
  | false =>
    have HP := Lib.hid (PY.init w a0_0 a1_0 a1_1 A0_1 c0_1 l0_1 hr0_1 hc0_1)
    have HFE := Lib.hid hfe
    clear hfe hr0_1
    go_enter Try.func12, Try.ntmps12
    go_upto_region 1 with (fail)
    generalize (w.alloc (.cells #[.int .i64 a0_0, .slice A0_1 l0_1.length c0_1] 24)).alloc (.cells #[.int .i64 a1_0, .int .i64 a1_1] 26) = W0 at *
    have y0 : W0.cell? ⟨w.heap.size, 0, none⟩ = some (.int .i64 a0_0) := HP.out.y.cell 0
    have y1 : W0.cell? ⟨w.heap.size, 1, none⟩ = some (.slice A0_1 l0_1.length c0_1) := HP.out.y.cell 1
    have s0 : W0.cell? ⟨w.heap.size + 1, 0, none⟩ = some (.int .i64 a1_0) := HP.out.s.cell 0
    have s1 : W0.cell? ⟨w.heap.size + 1, 1, none⟩ = some (.int .i64 a1_1) := HP.out.s.cell 1
    go_wp2_with (first
      | (go_at_call 37; refine (forecourtlaw05_fine.calls 3000 a0_0 A0_1 c0_1 l0_1 a1_0 a1_1 false _ HP.out.C HP.out.hc HFE.out).mono ?_; rintro e W1 ⟨rfl, hb⟩; have HB := Lib.hid hb; clear hb)
      | (go_at_call 15; refine (works_calls _).mono ?_; rintro e W2 ⟨rfl, hb⟩; have HB2 := Lib.hid hb; clear hb))
    go_ret
    exact ⟨rfl, (HP.out.below HB.out).g.trans (HB2.out.mono (Nat.le_trans HP.out.g.size HB.out.size))⟩
  | true =>
      have hop : openE a0_0 l0_1 a1_0 a1_1 [] = 0 := by
        rw [Bool.and_eq_true] at hF
        exact of_decide_eq_true hF.2
      obtain ⟨hy, hsv, hst, _⟩ := open_parts hop
      have hn1 := hy.n1
      have hn2 := hy.n2
      have hln := hy.len
      have hv0 : 0 ≤ a4 % a0_0 := Int.emod_nonneg _ (by omega)
      have hv1 : a4 % a0_0 < a0_0 := Int.emod_lt_of_pos _ (by omega)
      have hro := rot_ok hop a3 (a4 % a0_0) ⟨hv0, hv1⟩
      have hup := fun h' => up_ok (up := a2) hop h' (a4 % a0_0) ⟨hv0, hv1⟩
      have htl := turnL_eq hy h2 h3
      have hzl : (l0_1.map (rotM a0_0 a3)).length ≤ 1000 := by rw [List.length_map]; omega
      have hxl : (l0_1.map (upM a2)).length ≤ 1000 := by rw [List.length_map]; omega
      generalize l0_1.map (rotM a0_0 a3) = zl at *
      generalize l0_1.map (upM a2) = xl at *
      have HRO := Lib.hid hro
      have HUP := Lib.hid hup
      have HY := Lib.hid hy
      have HOP := Lib.hid hop
      have HV := Lib.hid (show 0 ≤ a4 % a0_0 ∧ a4 % a0_0 < a0_0 from ⟨hv0, hv1⟩)
      have HN := Lib.hid (show (1 ≤ a0_0 ∧ a0_0 ≤ 20) ∧ l0_1.length ≤ 40 ∧ (0 ≤ a1_0 ∧ a1_0 < a0_0) ∧ (0 ≤ a1_1 ∧ a1_1 ≤ 100000) ∧ zl.length ≤ 1000 ∧ xl.length ≤ 1000 from ⟨⟨hn1, hn2⟩, hln, hsv, hst, hzl, hxl⟩)
      have A6 := Aside0.mk hfe
      have H' := Aside0.mk htl
      have c8 : ¬ a0_0 = 0 := by omega
      have HR0_1 := Aside0.mk hr0_1
      have HC0_1 := Aside0.mk hc0_1
      have HB := Aside0.mk (Below.refl w.heap.size w)
      have H2 := Lib.hid h2
      have H3 := Lib.hid h3
      have H4 := Lib.hid h4
      clear hr0_1 hc0_1 hro hup hy hop hfe htl hF hzl hxl hn1 hn2 hln hv0 hv1 hsv hst h2 h3 h4
      have c8b0 : (a0_0 == 0) = false := beq_eq_false_iff_ne.mpr c8
      have c8b1 : (a0_0 != 0) = true := bne_iff_ne.mpr c8
      go_enter Try.func12, Try.ntmps12
      go_wp2_with (first | ((with_reducible refine gate_dst (N := 5) rfl ?_); refine box_event ?hg (N := 5) ?hd (cs := #[.int .i64 a0_0, .slice A0_1 l0_1.length c0_1]) (t := 24) ?hr ?_; (case hd => rfl); (case hg => rfl); (case hr => first | (go_simp; done) | (go_simp; rfl)); intro gb403 hg w9 hbox hb; have n0_ := Aside0.mk (below_step (by repeat (first | (with_reducible first | exact HB.out | apply below_alloc | apply pw_below_drewN | apply below_drew1) | exact HB.out)) hb); have n1_ := Aside0.mk (hbox); have n2_ := Aside0.mk ((by rw [hg]; exact (below_size (by repeat (first | (with_reducible first | exact HB.out | apply below_alloc | apply pw_below_drewN | apply below_drew1) | exact HB.out))) : w.heap.size ≤ gb403)); have n3_ := Aside0.mk ((by rw [hg]; exact (below_size (by repeat (first | (with_reducible first | exact HB.out | apply below_alloc | apply pw_below_drewN | apply below_drew1) | exact HB.out))) : w.heap.size ≤ gb403)); clear HB; have HB := n0_; have BK403 := n1_; have GW403 := n2_; have GE403 := n3_; clear n0_ n1_ n2_ n3_; clear hb hbox hg) | ((with_reducible refine gate_dst (N := 6) rfl ?_); refine box_event ?hg (N := 6) ?hd (cs := #[.int .i64 a1_0, .int .i64 a1_1]) (t := 26) ?hr ?_; (case hd => rfl); (case hg => rfl); (case hr => first | (go_simp; done) | (go_simp; rfl)); intro gb404 hg w10 hbox hb; have n0_ := Aside0.mk (blk_below (g := gb403) (o := .cells #[.int .i64 a0_0, .slice A0_1 l0_1.length c0_1] 24 (0, 0)) (by (with_reducible repeat (first | refine blk_drewN ?_ _ | refine blk_drew ?_ | refine blk_alloc ?_ _)); exact BK403.out) hb); have n1_ := Aside0.mk (below_step (by repeat (first | (with_reducible first | exact HB.out | apply below_alloc | apply pw_below_drewN | apply below_drew1 | refine below_set ?_ GE403.out) | exact HB.out)) hb); have n2_ := Aside0.mk (hbox); have n3_ := Aside0.mk ((by rw [hg]; exact (below_size (by repeat (first | (with_reducible first | exact HB.out | apply below_alloc | apply pw_below_drewN | apply below_drew1 | refine below_set ?_ GE403.out) | exact HB.out))) : w.heap.size ≤ gb404)); have n4_ := Aside0.mk ((by rw [hg]; exact (below_size (by repeat (first | (with_reducible first | exact HB.out | apply below_alloc | apply pw_below_drewN | apply below_drew1 | refine below_set ?_ GE403.out) | exact HB.out))) : w.heap.size ≤ gb404)); have n5_ := Aside0.mk ((by rw [hg]; exact Nat.ne_of_lt (blk_lt (g := gb403) (o := .cells #[.int .i64 a0_0, .slice A0_1 l0_1.length c0_1] 24 (0, 0)) (by (with_reducible repeat (first | refine blk_drewN ?_ _ | refine blk_drew ?_ | refine blk_alloc ?_ _)); exact BK403.out)) : gb403 ≠ gb404)); have n6_ := Aside0.mk ((by rw [hg]; exact Nat.ne_of_gt (blk_lt (g := gb403) (o := .cells #[.int .i64 a0_0, .slice A0_1 l0_1.length c0_1] 24 (0, 0)) (by (with_reducible repeat (first | refine blk_drewN ?_ _ | refine blk_drew ?_ | refine blk_alloc ?_ _)); exact BK403.out)) : gb404 ≠ gb403)); clear BK403; clear HB; have BK403 := n0_; have HB := n1_; have BK404 := n2_; have GW404 := n3_; have GE404 := n4_; have NB403_404 := n5_; have NB404_403 := n6_; clear n0_ n1_ n2_ n3_ n4_ n5_ n6_; clear hb hbox hg; have hnb11 := NB403_404.out; have hnc11 := NB404_403.out; have hcz12_0 : w10.cell? ⟨gb403, 0, none⟩ = some (.int .i64 a0_0) := (blk_cell BK403.out 0).trans rfl; have hcz12_1 : w10.cell? ⟨gb403, 1, none⟩ = some (.slice A0_1 l0_1.length c0_1) := (blk_cell BK403.out 1).trans rfl; have hfz12_0 := blk_frozen BK403.out 0; have hfz12_1 := blk_frozen BK403.out 1; have hcz13_0 : w10.cell? ⟨gb404, 0, none⟩ = some (.int .i64 a1_0) := (blk_cell BK404.out 0).trans rfl; have hcz13_1 : w10.cell? ⟨gb404, 1, none⟩ = some (.int .i64 a1_1) := (blk_cell BK404.out 1).trans rfl; have hfz13_0 := blk_frozen BK404.out 0; have hfz13_1 := blk_frozen BK404.out 1) | ((with_reducible refine gate_callee (f := 37) rfl ?_); refine goesL_ (some 41) rfl rfl Try.func37 (by kernel_rfl) rfl #[.agg #[.int .i64 a0_0, .slice A0_1 l0_1.length c0_1], .agg #[.int .i64 a1_0, .int .i64 a1_1]] rfl (by (try simp only [List.map_toArray, List.map_cons, List.map_nil]); first | done | rfl | (simp only [List.length_drop, List.length_take]; rfl)) ?_; (with_reducible refine (forecourtlaw05_fine.calls 3000 a0_0 _ _ l0_1 a1_0 a1_1 true _ ?side1 ?side2 A6.out).mono ?_); (case side1 => repeat (first | exact (Kd.C_below HR0_1.out HB.out) | (with_reducible refine Kd.C_alloc ?_ _) | (with_reducible refine Kd.C_drewN ?_ _) | (with_reducible refine Kd.C_drew ?_))); (case side2 => exact HC0_1.out); rintro e w14 ⟨rfl, hb⟩; refine ⟨_, rfl, ?_⟩; have n0_ := Aside0.mk (blk_below (g := gb403) (o := .cells #[.int .i64 a0_0, .slice A0_1 l0_1.length c0_1] 24 (0, 0)) (by (with_reducible repeat (first | refine blk_drewN ?_ _ | refine blk_drew ?_ | refine blk_alloc ?_ _)); exact BK403.out) hb); have n1_ := Aside0.mk (blk_below (g := gb404) (o := .cells #[.int .i64 a1_0, .int .i64 a1_1] 26 (0, 0)) (by (with_reducible repeat (first | refine blk_drewN ?_ _ | refine blk_drew ?_ | refine blk_alloc ?_ _)); exact BK404.out) hb); have n2_ := Aside0.mk (below_step (by repeat (first | (with_reducible first | exact HB.out | apply below_alloc | apply pw_below_drewN | apply below_drew1 | refine below_set ?_ GE403.out | refine below_set ?_ GE404.out) | exact HB.out)) hb); clear BK403; clear BK404; clear HB; have BK403 := n0_; have BK404 := n1_; have HB := n2_; clear n0_ n1_ n2_; (try clear hb); (try clear hb2); (try clear hk); (try clear hi); have hcz15_0 : w14.cell? ⟨gb403, 0, none⟩ = some (.int .i64 a0_0) := (blk_cell BK403.out 0).trans rfl; have hcz15_1 : w14.cell? ⟨gb403, 1, none⟩ = some (.slice A0_1 l0_1.length c0_1) := (blk_cell BK403.out 1).trans rfl; have hfz15_0 := blk_frozen BK403.out 0; have hfz15_1 := blk_frozen BK403.out 1) | ((with_reducible refine gate_dst (N := 13) rfl ?_); refine box_event ?hg (N := 13) ?hd (cs := #[.int .i64 0, .slice none 0 0]) (t := 24) ?hr ?_; (case hd => rfl); (case hg => rfl); (case hr => first | (go_simp; done) | (go_simp; rfl)); intro gb407 hg w16 hbox hb; have n0_ := Aside0.mk (blk_below (g := gb403) (o := .cells #[.int .i64 a0_0, .slice A0_1 l0_1.length c0_1] 24 (0, 0)) (by (with_reducible repeat (first | refine blk_drewN ?_ _ | refine blk_drew ?_ | refine blk_alloc ?_ _)); exact BK403.out) hb); have n1_ := Aside0.mk (blk_below (g := gb404) (o := .cells #[.int .i64 a1_0, .int .i64 a1_1] 26 (0, 0)) (by (with_reducible repeat (first | refine blk_drewN ?_ _ | refine blk_drew ?_ | refine blk_alloc ?_ _)); exact BK404.out) hb); have n2_ := Aside0.mk (below_step (by repeat (first | (with_reducible first | exact HB.out | apply below_alloc | apply pw_below_drewN | apply below_drew1 | refine below_set ?_ GE403.out | refine below_set ?_ GE404.out) | exact HB.out)) hb); have n3_ := Aside0.mk (hbox); have n4_ := Aside0.mk ((by rw [hg]; exact (below_size (by repeat (first | (with_reducible first | exact HB.out | apply below_alloc | apply pw_below_drewN | apply below_drew1 | refine below_set ?_ GE403.out | refine below_set ?_ GE404.out) | exact HB.out))) : w.heap.size ≤ gb407)); have n5_ := Aside0.mk ((by rw [hg]; exact (below_size (by repeat (first | (with_reducible first | exact HB.out | apply below_alloc | apply pw_below_drewN | apply below_drew1 | refine below_set ?_ GE403.out | refine below_set ?_ GE404.out) | exact HB.out))) : w.heap.size ≤ gb407)); have n6_ := Aside0.mk ((by rw [hg]; exact Nat.ne_of_lt (blk_lt (g := gb403) (o := .cells #[.int .i64 a0_0, .slice A0_1 l0_1.length c0_1] 24 (0, 0)) (by (with_reducible repeat (first | refine blk_drewN ?_ _ | refine blk_drew ?_ | refine blk_alloc ?_ _)); exact BK403.out)) : gb403 ≠ gb407)); have n7_ := Aside0.mk ((by rw [hg]; exact Nat.ne_of_gt (blk_lt (g := gb403) (o := .cells #[.int .i64 a0_0, .slice A0_1 l0_1.length c0_1] 24 (0, 0)) (by (with_reducible repeat (first | refine blk_drewN ?_ _ | refine blk_drew ?_ | refine blk_alloc ?_ _)); exact BK403.out)) : gb407 ≠ gb403)); have n8_ := Aside0.mk ((by rw [hg]; exact Nat.ne_of_lt (blk_lt (g := gb404) (o := .cells #[.int .i64 a1_0, .int .i64 a1_1] 26 (0, 0)) (by (with_reducible repeat (first | refine blk_drewN ?_ _ | refine blk_drew ?_ | refine blk_alloc ?_ _)); exact BK404.out)) : gb404 ≠ gb407)); have n9_ := Aside0.mk ((by rw [hg]; exact Nat.ne_of_gt (blk_lt (g := gb404) (o := .cells #[.int .i64 a1_0, .int .i64 a1_1] 26 (0, 0)) (by (with_reducible repeat (first | refine blk_drewN ?_ _ | refine blk_drew ?_ | refine blk_alloc ?_ _)); exact BK404.out)) : gb407 ≠ gb404)); clear BK403; clear BK404; clear HB; have BK403 := n0_; have BK404 := n1_; have HB := n2_; have BK407 := n3_; have GW407 := n4_; have GE407 := n5_; have NB403_407 := n6_; have NB407_403 := n7_; have NB404_407 := n8_; have NB407_404 := n9_; clear n0_ n1_ n2_ n3_ n4_ n5_ n6_ n7_ n8_ n9_; clear hb hbox hg) | ((with_reducible refine gate_dst (N := 14) rfl ?_); refine box_event ?hg (N := 14) ?hd (cs := #[.int .i64 0, .slice none 0 0]) (t := 24) ?hr ?_; (case hd => rfl); (case hg => rfl); (case hr => first | (go_simp; done) | (go_simp; rfl)); intro gb408 hg w17 hbox hb; have n0_ := Aside0.mk (blk_below (g := gb403) (o := .cells #[.int .i64 a0_0, .slice A0_1 l0_1.length c0_1] 24 (0, 0)) (by (with_reducible repeat (first | refine blk_drewN ?_ _ | refine blk_drew ?_ | refine blk_alloc ?_ _)); exact BK403.out) hb); have n1_ := Aside0.mk (blk_below (g := gb404) (o := .cells #[.int .i64 a1_0, .int .i64 a1_1] 26 (0, 0)) (by (with_reducible repeat (first | refine blk_drewN ?_ _ | refine blk_drew ?_ | refine blk_alloc ?_ _)); exact BK404.out) hb); have n2_ := Aside0.mk (blk_below (g := gb407) (o := .cells #[.int .i64 0, .slice none 0 0] 24 (0, 0)) (by (with_reducible repeat (first | refine blk_drewN ?_ _ | refine blk_drew ?_ | refine blk_alloc ?_ _)); exact BK407.out) hb); have n3_ := Aside0.mk (below_step (by repeat (first | (with_reducible first | exact HB.out | apply below_alloc | apply pw_below_drewN | apply below_drew1 | refine below_set ?_ GE403.out | refine below_set ?_ GE404.out | refine below_set ?_ GE407.out) | exact HB.out)) hb); have n4_ := Aside0.mk (hbox); have n5_ := Aside0.mk ((by rw [hg]; exact (below_size (by repeat (first | (with_reducible first | exact HB.out | apply below_alloc | apply pw_below_drewN | apply below_drew1 | refine below_set ?_ GE403.out | refine below_set ?_ GE404.out | refine below_set ?_ GE407.out) | exact HB.out))) : w.heap.size ≤ gb408)); have n6_ := Aside0.mk ((by rw [hg]; exact (below_size (by repeat (first | (with_reducible first | exact HB.out | apply below_alloc | apply pw_below_drewN | apply below_drew1 | refine below_set ?_ GE403.out | refine below_set ?_ GE404.out | refine below_set ?_ GE407.out) | exact HB.out))) : w.heap.size ≤ gb408)); have n7_ := Aside0.mk ((by rw [hg]; exact Nat.ne_of_lt (blk_lt (g := gb403) (o := .cells #[.int .i64 a0_0, .slice A0_1 l0_1.length c0_1] 24 (0, 0)) (by (with_reducible repeat (first | refine blk_drewN ?_ _ | refine blk_drew ?_ | refine blk_alloc ?_ _)); exact BK403.out)) : gb403 ≠ gb408)); have n8_ := Aside0.mk ((by rw [hg]; exact Nat.ne_of_gt (blk_lt (g := gb403) (o := .cells #[.int .i64 a0_0, .slice A0_1 l0_1.length c0_1] 24 (0, 0)) (by (with_reducible repeat (first | refine blk_drewN ?_ _ | refine blk_drew ?_ | refine blk_alloc ?_ _)); exact BK403.out)) : gb408 ≠ gb403)); have n9_ := Aside0.mk ((by rw [hg]; exact Nat.ne_of_lt (blk_lt (g := gb404) (o := .cells #[.int .i64 a1_0, .int .i64 a1_1] 26 (0, 0)) (by (with_reducible repeat (first | refine blk_drewN ?_ _ | refine blk_drew ?_ | refine blk_alloc ?_ _)); exact BK404.out)) : gb404 ≠ gb408)); have n10_ := Aside0.mk ((by rw [hg]; exact Nat.ne_of_gt (blk_lt (g := gb404) (o := .cells #[.int .i64 a1_0, .int .i64 a1_1] 26 (0, 0)) (by (with_reducible repeat (first | refine blk_drewN ?_ _ | refine blk_drew ?_ | refine blk_alloc ?_ _)); exact BK404.out)) : gb408 ≠ gb404)); have n11_ := Aside0.mk ((by rw [hg]; exact Nat.ne_of_lt (blk_lt (g := gb407) (o := .cells #[.int .i64 0, .slice none 0 0] 24 (0, 0)) (by (with_reducible repeat (first | refine blk_drewN ?_ _ | refine blk_drew ?_ | refine blk_alloc ?_ _)); exact BK407.out)) : gb407 ≠ gb408)); have n12_ := Aside0.mk ((by rw [hg]; exact Nat.ne_of_gt (blk_lt (g := gb407) (o := .cells #[.int .i64 0, .slice none 0 0] 24 (0, 0)) (by (with_reducible repeat (first | refine blk_drewN ?_ _ | refine blk_drew ?_ | refine blk_alloc ?_ _)); exact BK407.out)) : gb408 ≠ gb407)); clear BK403; clear BK404; clear BK407; clear HB; have BK403 := n0_; have BK404 := n1_; have BK407 := n2_; have HB := n3_; have BK408 := n4_; have GW408 := n5_; have GE408 := n6_; have NB403_408 := n7_; have NB408_403 := n8_; have NB404_408 := n9_; have NB408_404 := n10_; have NB407_408 := n11_; have NB408_407 := n12_; clear n0_ n1_ n2_ n3_ n4_ n5_ n6_ n7_ n8_ n9_ n10_ n11_ n12_; clear hb hbox hg; have hnb18 := NB407_403.out; have hnc18 := NB403_407.out; have hnb19 := NB407_404.out; have hnc19 := NB404_407.out; have hnb20 := NB407_408.out; have hnc20 := NB408_407.out; have hcz21_0 : w17.cell? ⟨gb407, 0, none⟩ = some (.int .i64 0) := (blk_cell BK407.out 0).trans rfl; have hcz21_1 : w17.cell? ⟨gb407, 1, none⟩ = some (.slice none 0 0) := (blk_cell BK407.out 1).trans rfl; have hfz21_0 := blk_frozen BK407.out 0; have hfz21_1 := blk_frozen BK407.out 1; have hnb22 := NB408_403.out; have hnc22 := NB403_408.out; have hnb23 := NB408_404.out; have hnc23 := NB404_408.out; have hcz24_0 : w17.cell? ⟨gb408, 0, none⟩ = some (.int .i64 0) := (blk_cell BK408.out 0).trans rfl; have hcz24_1 : w17.cell? ⟨gb408, 1, none⟩ = some (.slice none 0 0) := (blk_cell BK408.out 1).trans rfl; have hfz24_0 := blk_frozen BK408.out 0; have hfz24_1 := blk_frozen BK408.out 1))
      go_loopg [15] 3000 (fun kq v15 w' => ∃ (x15_1 : Int) (x408001_1 : List (S58)) (x409001_1 : List (S58)) (u408001 : Value) (u409001 : Value), v15 = .int .i64 x15_1 ∧ Aside0 (turnL kq a2 a3 a0_0 x15_1 l0_1 x408001_1 x409001_1 = some (xl, zl)) ∧ Aside0 (kq ≤ 3000) ∧ Aside0 (Kd.R k58 58 w' w.heap.size (fun k_ => some k_ ≠ (u409001 : Value).ownBlock) u408001 x408001_1) ∧ Aside0 (Kd.R k58 58 w' w.heap.size (fun k_ => some k_ ≠ (u408001 : Value).ownBlock) u409001 x409001_1) ∧ Aside0 (w'.heap[gb403]? = some (.cells #[.int .i64 a0_0, (.slice A0_1 l0_1.length c0_1)] 24 (0, 0))) ∧ Aside0 (w'.heap[gb404]? = some (.cells #[.int .i64 a1_0, .int .i64 a1_1] 26 (0, 0))) ∧ Aside0 (w'.heap[gb407]? = some (.cells #[.int .i64 a0_0, u408001] 24 (0, 0))) ∧ Aside0 (w'.heap[gb408]? = some (.cells #[.int .i64 a0_0, u409001] 24 (0, 0))) ∧ Aside0 (Below w.heap.size w w'))
      case atStart => exact ⟨(0), (([] : List (S58))), (([] : List (S58))), (.slice none 0 0), (.slice none 0 0), (by first | rfl | (simp; done) | (simp [*]; done)), H', ⟨Nat.le_refl _⟩, ⟨by first | exact Kd.R_nil _ _ _ _ _ | exact Kd.N_nil _ _ _ _ _ | exact Kd.V_nil _ _ _ _ _ | exact Kd.Q_nil _ _ _ _ _ | exact Kd.S_nil _ _ _ _ _⟩, ⟨by first | exact Kd.R_nil _ _ _ _ _ | exact Kd.N_nil _ _ _ _ _ | exact Kd.V_nil _ _ _ _ _ | exact Kd.Q_nil _ _ _ _ _ | exact Kd.S_nil _ _ _ _ _⟩, ⟨by (with_reducible repeat (first | refine blk_drewN ?_ _ | refine blk_drew ?_ | refine blk_alloc ?_ _)); refine blk_far ?_ NB403_408.out _; (with_reducible repeat (first | refine blk_drewN ?_ _ | refine blk_drew ?_ | refine blk_alloc ?_ _)); refine blk_far ?_ NB403_408.out _; (with_reducible repeat (first | refine blk_drewN ?_ _ | refine blk_drew ?_ | refine blk_alloc ?_ _)); refine blk_far ?_ NB403_407.out _; (with_reducible repeat (first | refine blk_drewN ?_ _ | refine blk_drew ?_ | refine blk_alloc ?_ _)); refine blk_far ?_ NB403_407.out _; (with_reducible repeat (first | refine blk_drewN ?_ _ | refine blk_drew ?_ | refine blk_alloc ?_ _)); exact BK403.out⟩, ⟨by (with_reducible repeat (first | refine blk_drewN ?_ _ | refine blk_drew ?_ | refine blk_alloc ?_ _)); refine blk_far ?_ NB404_408.out _; (with_reducible repeat (first | refine blk_drewN ?_ _ | refine blk_drew ?_ | refine blk_alloc ?_ _)); refine blk_far ?_ NB404_408.out _; (with_reducible repeat (first | refine blk_drewN ?_ _ | refine blk_drew ?_ | refine blk_alloc ?_ _)); refine blk_far ?_ NB404_407.out _; (with_reducible repeat (first | refine blk_drewN ?_ _ | refine blk_drew ?_ | refine blk_alloc ?_ _)); refine blk_far ?_ NB404_407.out _; (with_reducible repeat (first | refine blk_drewN ?_ _ | refine blk_drew ?_ | refine blk_alloc ?_ _)); exact BK404.out⟩, ⟨by (with_reducible repeat (first | refine blk_drewN ?_ _ | refine blk_drew ?_ | refine blk_alloc ?_ _)); refine blk_far ?_ NB407_408.out _; (with_reducible repeat (first | refine blk_drewN ?_ _ | refine blk_drew ?_ | refine blk_alloc ?_ _)); refine blk_far ?_ NB407_408.out _; (with_reducible repeat (first | refine blk_drewN ?_ _ | refine blk_drew ?_ | refine blk_alloc ?_ _)); refine blk_put (cs := #[.int .i64 a0_0, .slice none 0 0]) ?_ 1 _ rfl; (with_reducible repeat (first | refine blk_drewN ?_ _ | refine blk_drew ?_ | refine blk_alloc ?_ _)); refine blk_put (cs := #[.int .i64 0, .slice none 0 0]) ?_ 0 _ rfl; (with_reducible repeat (first | refine blk_drewN ?_ _ | refine blk_drew ?_ | refine blk_alloc ?_ _)); exact BK407.out⟩, ⟨by (with_reducible repeat (first | refine blk_drewN ?_ _ | refine blk_drew ?_ | refine blk_alloc ?_ _)); refine blk_put (cs := #[.int .i64 a0_0, .slice none 0 0]) ?_ 1 _ rfl; (with_reducible repeat (first | refine blk_drewN ?_ _ | refine blk_drew ?_ | refine blk_alloc ?_ _)); refine blk_put (cs := #[.int .i64 0, .slice none 0 0]) ?_ 0 _ rfl; (with_reducible repeat (first | refine blk_drewN ?_ _ | refine blk_drew ?_ | refine blk_alloc ?_ _)); refine blk_far ?_ NB408_407.out _; (with_reducible repeat (first | refine blk_drewN ?_ _ | refine blk_drew ?_ | refine blk_alloc ?_ _)); refine blk_far ?_ NB408_407.out _; (with_reducible repeat (first | refine blk_drewN ?_ _ | refine blk_drew ?_ | refine blk_alloc ?_ _)); exact BK408.out⟩, ⟨by repeat (first | (with_reducible first | exact HB.out | apply below_alloc | apply pw_below_drewN | apply below_drew1 | refine below_set ?_ GE403.out | refine below_set ?_ GE404.out | refine below_set ?_ GE407.out | refine below_set ?_ GE408.out) | exact HB.out)⟩⟩
      case round =>
        clear H'
        try clear c1
        try clear c2
        try clear p2
        try clear c3
        try clear p6
        try clear c7
        try clear c8
        try clear c8b0
        try clear c8b1
        try clear c11
        try clear c12
        try clear c18
        try clear c19
        try clear c20
        try clear c22
        try clear c23
        try clear hcz12_0
        try clear hcz12_1
        try clear hcz13_0
        try clear hcz13_1
        try clear hcz15_0
        try clear hcz15_1
        try clear hcz21_0
        try clear hcz21_1
        try clear hcz24_0
        try clear hcz24_1
        try clear hfz12_0
        try clear hfz12_1
        try clear hfz13_0
        try clear hfz13_1
        try clear hfz15_0
        try clear hfz15_1
        try clear hfz21_0
        try clear hfz21_1
        try clear hfz24_0
        try clear hfz24_1
        obtain ⟨x15_1, x408001_1, x409001_1, u408001, u409001, rfl, HA, HK1, HO_408001, HO_409001, BK403, BK404, BK407, BK408, HB⟩ := hrel
        cases gk with
        | zero => exact absurd HA.out (by simp [turnL])
        | succ k1 =>
          have H := HA.out
          clear HA
          simp only [turnL] at H
          by_cases c25 : x15_1 < (l0_1.length : Int)
          · as_aux_lemma =>
            rw [if_pos c25] at H
            have c25b0 : decide (x15_1 < (l0_1.length : Int)) = true := decide_eq_true c25
            clear c25
            by_cases c26 : 0 ≤ x15_1
            · rw [if_pos c26] at H
              have c26b0 : decide (0 ≤ x15_1) = true := decide_eq_true c26
              clear c26
              replace H := Option.bind_eq_some_iff.mp H
              obtain ⟨⟨t411, t412, t413, t414⟩, A270, H⟩ := H
              replace H : (if x408001_1.length < 4398046511104 then (if a0_0 = 0 then (none) else ((forecourtlaw05_Move.f (Int.tmod (wrap64 (((rd_T58 l0_1 x15_1).f0) + (wrap64 (a3)))) a0_0) (Int.tmod (wrap64 (((rd_T58 l0_1 x15_1).f1) + (wrap64 (a3)))) a0_0) ((rd_T58 l0_1 x15_1).f2.f0) ((rd_T58 l0_1 x15_1).f2.f1)).bind fun bt418 => (if x409001_1.length < 4398046511104 then (turnL k1 a2 a3 a0_0 (wrap64 (x15_1 + 1)) l0_1 (x408001_1 ++ [(⟨t411, t412, (⟨t413, t414⟩ : S56)⟩ : S58)]) (x409001_1 ++ [(⟨bt418.1, bt418.2.1, (⟨bt418.2.2.1, bt418.2.2.2⟩ : S56)⟩ : S58)])) else (none)))) else (none)) = some (xl, zl) := H
              have A27 := Aside0.mk A270
              clear A270
              by_cases c28 : x408001_1.length < 4398046511104
              · rw [if_pos c28] at H
                have LMc28 := Aside0.mk c28
                clear c28
                obtain ⟨y415, hy415⟩ : ∃ y_ : List (S58), y_ = (x408001_1 ++ [(⟨t411, t412, (⟨t413, t414⟩ : S56)⟩ : S58)]) := ⟨_, rfl⟩
                replace H : (if a0_0 = 0 then (none) else ((forecourtlaw05_Move.f (Int.tmod (wrap64 (((rd_T58 l0_1 x15_1).f0) + (wrap64 (a3)))) a0_0) (Int.tmod (wrap64 (((rd_T58 l0_1 x15_1).f1) + (wrap64 (a3)))) a0_0) ((rd_T58 l0_1 x15_1).f2.f0) ((rd_T58 l0_1 x15_1).f2.f1)).bind fun bt418 => (if x409001_1.length < 4398046511104 then (turnL k1 a2 a3 a0_0 (wrap64 (x15_1 + 1)) l0_1 y415 (x409001_1 ++ [(⟨bt418.1, bt418.2.1, (⟨bt418.2.2.1, bt418.2.2.2⟩ : S56)⟩ : S58)])) else (none)))) = some (xl, zl) := by first | (rw [hy415]; with_reducible exact H) | (have H2_ := (Option.bind_some _ _).symm.trans H; rw [hy415]; with_reducible exact H2_) | (have H2_ := (Option.bind_some _ _).symm.trans H; with_reducible exact H2_) | with_reducible exact H | (rw [hy415]; exact H) | exact H
                have Ny415 := Aside0.mk hy415
                clear hy415
                by_cases c29 : a0_0 = 0
                · rw [if_pos c29] at H
                  exact absurd H (by simp)
                · rw [if_neg c29] at H
                  have c29b0 : (a0_0 == 0) = false := beq_eq_false_iff_ne.mpr c29
                  have c29b1 : (a0_0 != 0) = true := bne_iff_ne.mpr c29
                  replace H := Option.bind_eq_some_iff.mp H
                  obtain ⟨⟨t418, t419, t420, t421⟩, A300, H⟩ := H
                  replace H : (if x409001_1.length < 4398046511104 then (turnL k1 a2 a3 a0_0 (wrap64 (x15_1 + 1)) l0_1 y415 (x409001_1 ++ [(⟨t418, t419, (⟨t420, t421⟩ : S56)⟩ : S58)])) else (none)) = some (xl, zl) := H
                  have A30 := Aside0.mk A300
                  clear A300
                  by_cases c31 : x409001_1.length < 4398046511104
                  · rw [if_pos c31] at H
                    have LMc31 := Aside0.mk c31
                    clear c31
                    obtain ⟨y422, hy422⟩ : ∃ y_ : List (S58), y_ = (x409001_1 ++ [(⟨t418, t419, (⟨t420, t421⟩ : S56)⟩ : S58)]) := ⟨_, rfl⟩
                    replace H : (turnL k1 a2 a3 a0_0 (wrap64 (x15_1 + 1)) l0_1 y415 y422) = some (xl, zl) := by first | (rw [hy422]; with_reducible exact H) | (have H2_ := (Option.bind_some _ _).symm.trans H; rw [hy422]; with_reducible exact H2_) | (have H2_ := (Option.bind_some _ _).symm.trans H; with_reducible exact H2_) | with_reducible exact H | (rw [hy422]; exact H) | exact H
                    have Ny422 := Aside0.mk hy422
                    clear hy422
                    have H' := Aside0.mk H
                    clear H
                    have hnb32 := NB403_404.out
                    have hnc32 := NB404_403.out
                    have hnb33 := NB403_407.out
                    have hnc33 := NB407_403.out
                    have hnb34 := NB403_408.out
                    have hnc34 := NB408_403.out
                    have hcz35_0 : wr.cell? ⟨gb403, 0, none⟩ = some (.int .i64 a0_0) := (blk_cell BK403.out 0).trans rfl
                    have hcz35_1 : wr.cell? ⟨gb403, 1, none⟩ = some (.slice A0_1 l0_1.length c0_1) := (blk_cell BK403.out 1).trans rfl
                    have hfz35_0 := blk_frozen BK403.out 0
                    have hfz35_1 := blk_frozen BK403.out 1
                    have p409 : 0 ≤ (x15_1 : Int) := of_decide_eq_true (by first | (with_reducible assumption) | assumption)
                    have q409 : x15_1 < (l0_1.length : Int) := of_decide_eq_true (by first | (with_reducible assumption) | assumption)
                    obtain ⟨ad409, e409, hx409_0, hx409_1, hx409_2, hx409_3⟩ := at_T58 HR0_1.out x15_1 p409 q409
                    cases e409
                    replace hx409_0 := (HB.out.cell (World.block_lt_of_cell? w _ hx409_0)).trans hx409_0
                    replace hx409_1 := (HB.out.cell (World.block_lt_of_cell? w _ hx409_1)).trans hx409_1
                    replace hx409_2 := (HB.out.cell (World.block_lt_of_cell? w _ hx409_2)).trans hx409_2
                    replace hx409_3 := (HB.out.cell (World.block_lt_of_cell? w _ hx409_3)).trans hx409_3
                    replace p409 := eq_true p409
                    replace q409 := eq_true q409
                    try go_wp2_with (first | ((with_reducible refine gate_dst (N := 16) rfl ?_); refine box_event ?hg (N := 16) ?hd (cs := #[.int .i64 0, .int .i64 0, .int .i64 0, .int .i64 0]) (t := 58) ?hr ?_; (case hd => rfl); (case hg => rfl); (case hr => first | (go_simp; done) | (go_simp; rfl)); intro gb410 hg w36 hbox hb; have n0_ := Aside0.mk (Kd.R_below (Kd.R_elderB (by (with_reducible repeat (first | apply Kd.R_alloc | apply Kd.R_drewN | apply Kd.R_drew)); exact HO_408001.out) gb410 (Nat.le_of_eq hg.symm)) hb); have n1_ := Aside0.mk (Kd.R_below (Kd.R_elderB (by (with_reducible repeat (first | apply Kd.R_alloc | apply Kd.R_drewN | apply Kd.R_drew)); exact HO_409001.out) gb410 (Nat.le_of_eq hg.symm)) hb); have n2_ := Aside0.mk (blk_below (g := gb403) (o := .cells #[.int .i64 a0_0, .slice (some ad409) l0_1.length c0_1] 24 (0, 0)) (by (with_reducible repeat (first | refine blk_drewN ?_ _ | refine blk_drew ?_ | refine blk_alloc ?_ _)); exact BK403.out) hb); have n3_ := Aside0.mk (blk_below (g := gb404) (o := .cells #[.int .i64 a1_0, .int .i64 a1_1] 26 (0, 0)) (by (with_reducible repeat (first | refine blk_drewN ?_ _ | refine blk_drew ?_ | refine blk_alloc ?_ _)); exact BK404.out) hb); have n4_ := Aside0.mk (blk_below (g := gb407) (o := .cells #[.int .i64 a0_0, u408001] 24 (0, 0)) (by (with_reducible repeat (first | refine blk_drewN ?_ _ | refine blk_drew ?_ | refine blk_alloc ?_ _)); exact BK407.out) hb); have n5_ := Aside0.mk (blk_below (g := gb408) (o := .cells #[.int .i64 a0_0, u409001] 24 (0, 0)) (by (with_reducible repeat (first | refine blk_drewN ?_ _ | refine blk_drew ?_ | refine blk_alloc ?_ _)); exact BK408.out) hb); have n6_ := Aside0.mk (below_step (by repeat (first | (with_reducible first | exact HB.out | apply below_alloc | apply pw_below_drewN | apply below_drew1 | refine below_set ?_ GE403.out | refine below_set ?_ GE404.out | refine below_set ?_ GE407.out | refine below_set ?_ GE408.out) | exact HB.out)) hb); have n7_ := Aside0.mk (hbox); have n8_ := Aside0.mk ((by rw [hg]; exact (below_size (by repeat (first | (with_reducible first | exact HB.out | apply below_alloc | apply pw_below_drewN | apply below_drew1 | refine below_set ?_ GE403.out | refine below_set ?_ GE404.out | refine below_set ?_ GE407.out | refine below_set ?_ GE408.out) | exact HB.out))) : w.heap.size ≤ gb410)); have n9_ := Aside0.mk ((by rw [hg]; exact (below_size (by repeat (first | (with_reducible first | exact HB.out | apply below_alloc | apply pw_below_drewN | apply below_drew1 | refine below_set ?_ GE403.out | refine below_set ?_ GE404.out | refine below_set ?_ GE407.out | refine below_set ?_ GE408.out) | exact HB.out))) : w.heap.size ≤ gb410)); have n10_ := Aside0.mk ((by rw [hg]; exact Nat.ne_of_lt (blk_lt (g := gb403) (o := .cells #[.int .i64 a0_0, .slice (some ad409) l0_1.length c0_1] 24 (0, 0)) (by (with_reducible repeat (first | refine blk_drewN ?_ _ | refine blk_drew ?_ | refine blk_alloc ?_ _)); exact BK403.out)) : gb403 ≠ gb410)); have n11_ := Aside0.mk ((by rw [hg]; exact Nat.ne_of_gt (blk_lt (g := gb403) (o := .cells #[.int .i64 a0_0, .slice (some ad409) l0_1.length c0_1] 24 (0, 0)) (by (with_reducible repeat (first | refine blk_drewN ?_ _ | refine blk_drew ?_ | refine blk_alloc ?_ _)); exact BK403.out)) : gb410 ≠ gb403)); have n12_ := Aside0.mk ((by rw [hg]; exact Nat.ne_of_lt (blk_lt (g := gb404) (o := .cells #[.int .i64 a1_0, .int .i64 a1_1] 26 (0, 0)) (by (with_reducible repeat (first | refine blk_drewN ?_ _ | refine blk_drew ?_ | refine blk_alloc ?_ _)); exact BK404.out)) : gb404 ≠ gb410)); have n13_ := Aside0.mk ((by rw [hg]; exact Nat.ne_of_gt (blk_lt (g := gb404) (o := .cells #[.int .i64 a1_0, .int .i64 a1_1] 26 (0, 0)) (by (with_reducible repeat (first | refine blk_drewN ?_ _ | refine blk_drew ?_ | refine blk_alloc ?_ _)); exact BK404.out)) : gb410 ≠ gb404)); have n14_ := Aside0.mk ((by rw [hg]; exact Nat.ne_of_lt (blk_lt (g := gb407) (o := .cells #[.int .i64 a0_0, u408001] 24 (0, 0)) (by (with_reducible repeat (first | refine blk_drewN ?_ _ | refine blk_drew ?_ | refine blk_alloc ?_ _)); exact BK407.out)) : gb407 ≠ gb410)); have n15_ := Aside0.mk ((by rw [hg]; exact Nat.ne_of_gt (blk_lt (g := gb407) (o := .cells #[.int .i64 a0_0, u408001] 24 (0, 0)) (by (with_reducible repeat (first | refine blk_drewN ?_ _ | refine blk_drew ?_ | refine blk_alloc ?_ _)); exact BK407.out)) : gb410 ≠ gb407)); have n16_ := Aside0.mk ((by rw [hg]; exact Nat.ne_of_lt (blk_lt (g := gb408) (o := .cells #[.int .i64 a0_0, u409001] 24 (0, 0)) (by (with_reducible repeat (first | refine blk_drewN ?_ _ | refine blk_drew ?_ | refine blk_alloc ?_ _)); exact BK408.out)) : gb408 ≠ gb410)); have n17_ := Aside0.mk ((by rw [hg]; exact Nat.ne_of_gt (blk_lt (g := gb408) (o := .cells #[.int .i64 a0_0, u409001] 24 (0, 0)) (by (with_reducible repeat (first | refine blk_drewN ?_ _ | refine blk_drew ?_ | refine blk_alloc ?_ _)); exact BK408.out)) : gb410 ≠ gb408)); clear HO_408001; clear HO_409001; clear BK403; clear BK404; clear BK407; clear BK408; clear HB; have HO_408001 := n0_; have HO_409001 := n1_; have BK403 := n2_; have BK404 := n3_; have BK407 := n4_; have BK408 := n5_; have HB := n6_; have BK410 := n7_; have GW410 := n8_; have GE410 := n9_; have NB403_410 := n10_; have NB410_403 := n11_; have NB404_410 := n12_; have NB410_404 := n13_; have NB407_410 := n14_; have NB410_407 := n15_; have NB408_410 := n16_; have NB410_408 := n17_; clear n0_ n1_ n2_ n3_ n4_ n5_ n6_ n7_ n8_ n9_ n10_ n11_ n12_ n13_ n14_ n15_ n16_ n17_; clear hb hbox hg; have hnb37 := NB410_403.out; have hnc37 := NB403_410.out; have hnb38 := NB410_404.out; have hnc38 := NB404_410.out; have hnb39 := NB410_407.out; have hnc39 := NB407_410.out; have hnb40 := NB410_408.out; have hnc40 := NB408_410.out; have hcz41_0 : w36.cell? ⟨gb410, 0, none⟩ = some (.int .i64 0) := (blk_cell BK410.out 0).trans rfl; have hcz41_1 : w36.cell? ⟨gb410, 1, none⟩ = some (.int .i64 0) := (blk_cell BK410.out 1).trans rfl; have hcz41_2 : w36.cell? ⟨gb410, 2, none⟩ = some (.int .i64 0) := (blk_cell BK410.out 2).trans rfl; have hcz41_3 : w36.cell? ⟨gb410, 3, none⟩ = some (.int .i64 0) := (blk_cell BK410.out 3).trans rfl; have hfz41_0 := blk_frozen BK410.out 0; have hfz41_1 := blk_frozen BK410.out 1; have hfz41_2 := blk_frozen BK410.out 2; have hfz41_3 := blk_frozen BK410.out 3))
                    have n0_ : Aside0 (Kd.R k58 58 ((((w36.setCell ⟨gb410, 0, none⟩ (.int .i64 ((rd_T58 l0_1 x15_1).f0))).setCell ⟨gb410, 1, none⟩ (.int .i64 ((rd_T58 l0_1 x15_1).f1))).setCell ⟨gb410, 2, none⟩ (.int .i64 ((rd_T58 l0_1 x15_1).f2.f0))).setCell ⟨gb410, 3, none⟩ (.int .i64 ((rd_T58 l0_1 x15_1).f2.f1))) w.heap.size (fun k_ => some k_ ≠ (u409001 : Value).ownBlock ∧ k_ ≠ gb410) u408001 x408001_1) := ⟨by (with_reducible repeat (first | apply Kd.R_alloc | apply Kd.R_drewN | apply Kd.R_drew)); exact Kd.R_mono (Kd.R_far (p := ⟨gb410, 3, none⟩) (Kd.R_far (p := ⟨gb410, 2, none⟩) (Kd.R_far (p := ⟨gb410, 1, none⟩) (Kd.R_far (p := ⟨gb410, 0, none⟩) (Kd.R_mono HO_408001.out (fun k_ hk => (⟨hk, hk.2⟩ : _ ∧ k_ ≠ gb410))) (fun _ hk => hk.2) (.int .i64 ((rd_T58 l0_1 x15_1).f0))) (fun _ hk => hk.2) (.int .i64 ((rd_T58 l0_1 x15_1).f1))) (fun _ hk => hk.2) (.int .i64 ((rd_T58 l0_1 x15_1).f2.f0))) (fun _ hk => hk.2) (.int .i64 ((rd_T58 l0_1 x15_1).f2.f1))) (fun _ hk => ⟨hk.1.1, hk.1.2⟩)⟩
                    have n1_ : Aside0 (Kd.R k58 58 ((((w36.setCell ⟨gb410, 0, none⟩ (.int .i64 ((rd_T58 l0_1 x15_1).f0))).setCell ⟨gb410, 1, none⟩ (.int .i64 ((rd_T58 l0_1 x15_1).f1))).setCell ⟨gb410, 2, none⟩ (.int .i64 ((rd_T58 l0_1 x15_1).f2.f0))).setCell ⟨gb410, 3, none⟩ (.int .i64 ((rd_T58 l0_1 x15_1).f2.f1))) w.heap.size (fun k_ => some k_ ≠ (u408001 : Value).ownBlock ∧ k_ ≠ gb410) u409001 x409001_1) := ⟨by (with_reducible repeat (first | apply Kd.R_alloc | apply Kd.R_drewN | apply Kd.R_drew)); exact Kd.R_mono (Kd.R_far (p := ⟨gb410, 3, none⟩) (Kd.R_far (p := ⟨gb410, 2, none⟩) (Kd.R_far (p := ⟨gb410, 1, none⟩) (Kd.R_far (p := ⟨gb410, 0, none⟩) (Kd.R_mono HO_409001.out (fun k_ hk => (⟨hk, hk.2⟩ : _ ∧ k_ ≠ gb410))) (fun _ hk => hk.2) (.int .i64 ((rd_T58 l0_1 x15_1).f0))) (fun _ hk => hk.2) (.int .i64 ((rd_T58 l0_1 x15_1).f1))) (fun _ hk => hk.2) (.int .i64 ((rd_T58 l0_1 x15_1).f2.f0))) (fun _ hk => hk.2) (.int .i64 ((rd_T58 l0_1 x15_1).f2.f1))) (fun _ hk => ⟨hk.1.1, hk.1.2⟩)⟩
                    have n2_ : Aside0 (((((w36.setCell ⟨gb410, 0, none⟩ (.int .i64 ((rd_T58 l0_1 x15_1).f0))).setCell ⟨gb410, 1, none⟩ (.int .i64 ((rd_T58 l0_1 x15_1).f1))).setCell ⟨gb410, 2, none⟩ (.int .i64 ((rd_T58 l0_1 x15_1).f2.f0))).setCell ⟨gb410, 3, none⟩ (.int .i64 ((rd_T58 l0_1 x15_1).f2.f1))).heap[gb403]? = some (.cells #[.int .i64 a0_0, .slice (some ad409) l0_1.length c0_1] 24 (0, 0))) := ⟨by (with_reducible repeat (first | refine blk_drewN ?_ _ | refine blk_drew ?_ | refine blk_alloc ?_ _)); refine blk_far ?_ NB403_410.out _; (with_reducible repeat (first | refine blk_drewN ?_ _ | refine blk_drew ?_ | refine blk_alloc ?_ _)); refine blk_far ?_ NB403_410.out _; (with_reducible repeat (first | refine blk_drewN ?_ _ | refine blk_drew ?_ | refine blk_alloc ?_ _)); refine blk_far ?_ NB403_410.out _; (with_reducible repeat (first | refine blk_drewN ?_ _ | refine blk_drew ?_ | refine blk_alloc ?_ _)); refine blk_far ?_ NB403_410.out _; (with_reducible repeat (first | refine blk_drewN ?_ _ | refine blk_drew ?_ | refine blk_alloc ?_ _)); exact BK403.out⟩
                    have n3_ : Aside0 (((((w36.setCell ⟨gb410, 0, none⟩ (.int .i64 ((rd_T58 l0_1 x15_1).f0))).setCell ⟨gb410, 1, none⟩ (.int .i64 ((rd_T58 l0_1 x15_1).f1))).setCell ⟨gb410, 2, none⟩ (.int .i64 ((rd_T58 l0_1 x15_1).f2.f0))).setCell ⟨gb410, 3, none⟩ (.int .i64 ((rd_T58 l0_1 x15_1).f2.f1))).heap[gb404]? = some (.cells #[.int .i64 a1_0, .int .i64 a1_1] 26 (0, 0))) := ⟨by (with_reducible repeat (first | refine blk_drewN ?_ _ | refine blk_drew ?_ | refine blk_alloc ?_ _)); refine blk_far ?_ NB404_410.out _; (with_reducible repeat (first | refine blk_drewN ?_ _ | refine blk_drew ?_ | refine blk_alloc ?_ _)); refine blk_far ?_ NB404_410.out _; (with_reducible repeat (first | refine blk_drewN ?_ _ | refine blk_drew ?_ | refine blk_alloc ?_ _)); refine blk_far ?_ NB404_410.out _; (with_reducible repeat (first | refine blk_drewN ?_ _ | refine blk_drew ?_ | refine blk_alloc ?_ _)); refine blk_far ?_ NB404_410.out _; (with_reducible repeat (first | refine blk_drewN ?_ _ | refine blk_drew ?_ | refine blk_alloc ?_ _)); exact BK404.out⟩
                    have n4_ : Aside0 (((((w36.setCell ⟨gb410, 0, none⟩ (.int .i64 ((rd_T58 l0_1 x15_1).f0))).setCell ⟨gb410, 1, none⟩ (.int .i64 ((rd_T58 l0_1 x15_1).f1))).setCell ⟨gb410, 2, none⟩ (.int .i64 ((rd_T58 l0_1 x15_1).f2.f0))).setCell ⟨gb410, 3, none⟩ (.int .i64 ((rd_T58 l0_1 x15_1).f2.f1))).heap[gb407]? = some (.cells #[.int .i64 a0_0, u408001] 24 (0, 0))) := ⟨by (with_reducible repeat (first | refine blk_drewN ?_ _ | refine blk_drew ?_ | refine blk_alloc ?_ _)); refine blk_far ?_ NB407_410.out _; (with_reducible repeat (first | refine blk_drewN ?_ _ | refine blk_drew ?_ | refine blk_alloc ?_ _)); refine blk_far ?_ NB407_410.out _; (with_reducible repeat (first | refine blk_drewN ?_ _ | refine blk_drew ?_ | refine blk_alloc ?_ _)); refine blk_far ?_ NB407_410.out _; (with_reducible repeat (first | refine blk_drewN ?_ _ | refine blk_drew ?_ | refine blk_alloc ?_ _)); refine blk_far ?_ NB407_410.out _; (with_reducible repeat (first | refine blk_drewN ?_ _ | refine blk_drew ?_ | refine blk_alloc ?_ _)); exact BK407.out⟩
                    have n5_ : Aside0 (((((w36.setCell ⟨gb410, 0, none⟩ (.int .i64 ((rd_T58 l0_1 x15_1).f0))).setCell ⟨gb410, 1, none⟩ (.int .i64 ((rd_T58 l0_1 x15_1).f1))).setCell ⟨gb410, 2, none⟩ (.int .i64 ((rd_T58 l0_1 x15_1).f2.f0))).setCell ⟨gb410, 3, none⟩ (.int .i64 ((rd_T58 l0_1 x15_1).f2.f1))).heap[gb408]? = some (.cells #[.int .i64 a0_0, u409001] 24 (0, 0))) := ⟨by (with_reducible repeat (first | refine blk_drewN ?_ _ | refine blk_drew ?_ | refine blk_alloc ?_ _)); refine blk_far ?_ NB408_410.out _; (with_reducible repeat (first | refine blk_drewN ?_ _ | refine blk_drew ?_ | refine blk_alloc ?_ _)); refine blk_far ?_ NB408_410.out _; (with_reducible repeat (first | refine blk_drewN ?_ _ | refine blk_drew ?_ | refine blk_alloc ?_ _)); refine blk_far ?_ NB408_410.out _; (with_reducible repeat (first | refine blk_drewN ?_ _ | refine blk_drew ?_ | refine blk_alloc ?_ _)); refine blk_far ?_ NB408_410.out _; (with_reducible repeat (first | refine blk_drewN ?_ _ | refine blk_drew ?_ | refine blk_alloc ?_ _)); exact BK408.out⟩
                    have n6_ : Aside0 (((((w36.setCell ⟨gb410, 0, none⟩ (.int .i64 ((rd_T58 l0_1 x15_1).f0))).setCell ⟨gb410, 1, none⟩ (.int .i64 ((rd_T58 l0_1 x15_1).f1))).setCell ⟨gb410, 2, none⟩ (.int .i64 ((rd_T58 l0_1 x15_1).f2.f0))).setCell ⟨gb410, 3, none⟩ (.int .i64 ((rd_T58 l0_1 x15_1).f2.f1))).heap[gb410]? = some (.cells #[.int .i64 ((rd_T58 l0_1 x15_1).f0), .int .i64 ((rd_T58 l0_1 x15_1).f1), .int .i64 ((rd_T58 l0_1 x15_1).f2.f0), .int .i64 ((rd_T58 l0_1 x15_1).f2.f1)] 58 (0, 0))) := ⟨by (with_reducible repeat (first | refine blk_drewN ?_ _ | refine blk_drew ?_ | refine blk_alloc ?_ _)); refine blk_put (cs := #[.int .i64 ((rd_T58 l0_1 x15_1).f0), .int .i64 ((rd_T58 l0_1 x15_1).f1), .int .i64 ((rd_T58 l0_1 x15_1).f2.f0), .int .i64 0]) ?_ 3 _ rfl; (with_reducible repeat (first | refine blk_drewN ?_ _ | refine blk_drew ?_ | refine blk_alloc ?_ _)); refine blk_put (cs := #[.int .i64 ((rd_T58 l0_1 x15_1).f0), .int .i64 ((rd_T58 l0_1 x15_1).f1), .int .i64 0, .int .i64 0]) ?_ 2 _ rfl; (with_reducible repeat (first | refine blk_drewN ?_ _ | refine blk_drew ?_ | refine blk_alloc ?_ _)); refine blk_put (cs := #[.int .i64 ((rd_T58 l0_1 x15_1).f0), .int .i64 0, .int .i64 0, .int .i64 0]) ?_ 1 _ rfl; (with_reducible repeat (first | refine blk_drewN ?_ _ | refine blk_drew ?_ | refine blk_alloc ?_ _)); refine blk_put (cs := #[.int .i64 0, .int .i64 0, .int .i64 0, .int .i64 0]) ?_ 0 _ rfl; (with_reducible repeat (first | refine blk_drewN ?_ _ | refine blk_drew ?_ | refine blk_alloc ?_ _)); exact BK410.out⟩
                    have n7_ : Aside0 (Below w.heap.size w ((((w36.setCell ⟨gb410, 0, none⟩ (.int .i64 ((rd_T58 l0_1 x15_1).f0))).setCell ⟨gb410, 1, none⟩ (.int .i64 ((rd_T58 l0_1 x15_1).f1))).setCell ⟨gb410, 2, none⟩ (.int .i64 ((rd_T58 l0_1 x15_1).f2.f0))).setCell ⟨gb410, 3, none⟩ (.int .i64 ((rd_T58 l0_1 x15_1).f2.f1)))) := ⟨by repeat (first | (with_reducible first | exact HB.out | apply below_alloc | apply pw_below_drewN | apply below_drew1 | refine below_set ?_ GE403.out | refine below_set ?_ GE404.out | refine below_set ?_ GE407.out | refine below_set ?_ GE408.out | refine below_set ?_ GE410.out) | exact HB.out)⟩
                    (try clear HO_408001)
                    (try clear HO_409001)
                    (try clear BK403)
                    (try clear BK404)
                    (try clear BK407)
                    (try clear BK408)
                    (try clear BK410)
                    (try clear HB)
                    generalize ((((w36.setCell ⟨gb410, 0, none⟩ (.int .i64 ((rd_T58 l0_1 x15_1).f0))).setCell ⟨gb410, 1, none⟩ (.int .i64 ((rd_T58 l0_1 x15_1).f1))).setCell ⟨gb410, 2, none⟩ (.int .i64 ((rd_T58 l0_1 x15_1).f2.f0))).setCell ⟨gb410, 3, none⟩ (.int .i64 ((rd_T58 l0_1 x15_1).f2.f1))) = w42 at n0_ n1_ n2_ n3_ n4_ n5_ n6_ n7_ ⊢
                    have HO_408001 := n0_
                    have HO_409001 := n1_
                    have BK403 := n2_
                    have BK404 := n3_
                    have BK407 := n4_
                    have BK408 := n5_
                    have BK410 := n6_
                    have HB := n7_
                    clear n0_ n1_ n2_ n3_ n4_ n5_ n6_ n7_
                    have n0_ := Aside0.mk (Kd.R_drew HO_408001.out)
                    have n1_ := Aside0.mk (Kd.R_drew HO_409001.out)
                    have n2_ := Aside0.mk (blk_drew BK403.out)
                    have n3_ := Aside0.mk (blk_drew BK404.out)
                    have n4_ := Aside0.mk (blk_drew BK407.out)
                    have n5_ := Aside0.mk (blk_drew BK408.out)
                    have n6_ := Aside0.mk (blk_drew BK410.out)
                    have n7_ := Aside0.mk (below_drew1 HB.out)
                    clear HO_408001
                    clear HO_409001
                    clear BK403
                    clear BK404
                    clear BK407
                    clear BK408
                    clear BK410
                    clear HB
                    have HO_408001 := n0_
                    have HO_409001 := n1_
                    have BK403 := n2_
                    have BK404 := n3_
                    have BK407 := n4_
                    have BK408 := n5_
                    have BK410 := n6_
                    have HB := n7_
                    clear n0_ n1_ n2_ n3_ n4_ n5_ n6_ n7_
                    refine start_ (n := 23) (S := fun w' => w'.cell? ⟨gb407, 0, none⟩ = some (.int .i64 a0_0) ∧ w'.cell? ⟨gb407, 1, none⟩ = some (u408001) ∧ w'.cell? ⟨gb410, 0, none⟩ = some (.int .i64 ((rd_T58 l0_1 x15_1).f0)) ∧ w'.cell? ⟨gb410, 1, none⟩ = some (.int .i64 ((rd_T58 l0_1 x15_1).f1)) ∧ w'.cell? ⟨gb410, 2, none⟩ = some (.int .i64 ((rd_T58 l0_1 x15_1).f2.f0)) ∧ w'.cell? ⟨gb410, 3, none⟩ = some (.int .i64 ((rd_T58 l0_1 x15_1).f2.f1))) (ds := [22]) #[false, false, false, false, false, false, false, false, false, false, false, false, false, false, false, false, false, false, false, false, false, false, false] (by kernel_rfl) rfl rfl ⟨(blk_cell BK407.out 0).trans rfl, (blk_cell BK407.out 1).trans rfl, (blk_cell BK410.out 0).trans rfl, (blk_cell BK410.out 1).trans rfl, (blk_cell BK410.out 2).trans rfl, (blk_cell BK410.out 3).trans rfl⟩ (fun hHeld => ?_); refine with_tabW forecourtlaw05_TaintTurned.tab10 forecourtlaw05_TaintTurned.bits10 (fun HT_ HW_ => ?_)
                    generalize w42.drew = w43 at HO_408001 HO_409001 BK403 BK404 BK407 BK408 BK410 HB hHeld ⊢
                    refine pure_ (i := 0) (N := some 66) (v := ?_) (a' := ?_) #[true, false, false, false, false, false, false, false, false, false, false, false, false, false, false, false, false, false, false, false, false, false, false] rfl rfl (any_of HT_.out (by kernel_rfl)) (fun _ _ _ h => h) (Or.inl ⟨by rfl, ?_⟩) ?_ ?_
                    rotate_left
                    · intro w'
                      go_simp
                      with_reducible rfl
                    rotate_left
                    · simp only [Act.put, List.setIfInBounds_toArray, List.set_cons_zero, List.set_cons_succ, i64_w, i32_w]
                      rfl
                    refine pure_ (i := 2) (N := some 68) (v := ?_) (a' := ?_) #[true, false, true, false, false, false, false, false, false, false, false, false, false, false, false, false, false, false, false, false, false, false, false] rfl rfl (any_of HT_.out (by kernel_rfl)) (fun _ _ _ h => h) (Or.inl ⟨by rfl, ?_⟩) ?_ ?_
                    rotate_left
                    · intro w'
                      go_simp
                      with_reducible rfl
                    rotate_left
                    · simp only [Act.put, List.setIfInBounds_toArray, List.set_cons_zero, List.set_cons_succ, i64_w, i32_w]
                      rfl
                    refine pure_ (i := 4) (N := some 70) (v := ?_) (a' := ?_) #[true, false, true, false, true, false, false, false, false, false, false, false, false, false, false, false, false, false, false, false, false, false, false] rfl rfl (any_of HT_.out (by kernel_rfl)) (fun _ _ _ h => h) (Or.inl ⟨by rfl, ?_⟩) ?_ ?_
                    rotate_left
                    · intro w'
                      go_simp
                      with_reducible rfl
                    rotate_left
                    · simp only [Act.put, List.setIfInBounds_toArray, List.set_cons_zero, List.set_cons_succ, i64_w, i32_w]
                      rfl
                    refine pure_ (i := 6) (N := some 72) (v := ?_) (a' := ?_) #[true, false, true, false, true, false, true, false, false, false, false, false, false, false, false, false, false, false, false, false, false, false, false] rfl rfl (any_of HT_.out (by kernel_rfl)) (fun _ _ _ h => h) (Or.inl ⟨by rfl, ?_⟩) ?_ ?_
                    rotate_left
                    · intro w'
                      go_simp
                      with_reducible rfl
                    rotate_left
                    · simp only [Act.put, List.setIfInBounds_toArray, List.set_cons_zero, List.set_cons_succ, i64_w, i32_w]
                      rfl
                    refine pure_ (i := 7) (N := some 73) (v := ?_) (a' := ?_) #[true, false, true, false, true, false, true, true, false, false, false, false, false, false, false, false, false, false, false, false, false, false, false] rfl rfl (any_of HT_.out (by kernel_rfl)) (fun _ _ _ h => h) (Or.inl ⟨by rfl, ?_⟩) ?_ ?_
                    rotate_left
                    · intro w'
                      go_simp
                      with_reducible rfl
                    rotate_left
                    · simp only [Act.put, List.setIfInBounds_toArray, List.set_cons_zero, List.set_cons_succ, i64_w, i32_w]
                      rfl
                    refine pure_ (i := 9) (N := some 75) (v := ?_) (a' := ?_) #[true, false, true, false, true, false, true, true, false, true, false, false, false, false, false, false, false, false, false, false, false, false, false] rfl rfl (any_of HT_.out (by kernel_rfl)) (fun _ _ _ h => h) (Or.inl ⟨by rfl, ?_⟩) ?_ ?_
                    rotate_left
                    · intro w'
                      go_simp
                      with_reducible rfl
                    rotate_left
                    · simp only [Act.put, List.setIfInBounds_toArray, List.set_cons_zero, List.set_cons_succ, i64_w, i32_w]
                      rfl
                    refine pure_ (i := 10) (N := some 76) (v := ?_) (a' := ?_) #[true, false, true, false, true, false, true, true, false, true, true, false, false, false, false, false, false, false, false, false, false, false, false] rfl rfl (any_of HT_.out (by kernel_rfl)) (fun _ _ _ h => h) (Or.inl ⟨by rfl, ?_⟩) ?_ ?_
                    rotate_left
                    · intro w'
                      go_simp
                      with_reducible rfl
                    rotate_left
                    · simp only [Act.put, List.setIfInBounds_toArray, List.set_cons_zero, List.set_cons_succ, i64_w, i32_w]
                      rfl
                    refine pure_ (i := 12) (N := some 78) (v := ?_) (a' := ?_) #[true, false, true, false, true, false, true, true, false, true, true, false, true, false, false, false, false, false, false, false, false, false, false] rfl rfl (any_of HT_.out (by kernel_rfl)) (fun _ _ _ h => h) (Or.inl ⟨by rfl, ?_⟩) ?_ ?_
                    rotate_left
                    · intro w'
                      go_simp
                      with_reducible rfl
                    rotate_left
                    · simp only [Act.put, List.setIfInBounds_toArray, List.set_cons_zero, List.set_cons_succ, i64_w, i32_w]
                      rfl
                    refine pure_ (i := 13) (N := some 79) (v := ?_) (a' := ?_) #[true, false, true, false, true, false, true, true, false, true, true, false, true, true, false, false, false, false, false, false, false, false, false] rfl rfl (any_of HT_.out (by kernel_rfl)) (fun _ _ _ h => h) (Or.inl ⟨by rfl, ?_⟩) ?_ ?_
                    rotate_left
                    · intro w'
                      go_simp
                      with_reducible rfl
                    rotate_left
                    · simp only [Act.put, List.setIfInBounds_toArray, List.set_cons_zero, List.set_cons_succ, i64_w, i32_w]
                      rfl
                    refine pure_ (i := 15) (N := some 81) (v := ?_) (a' := ?_) #[true, false, true, false, true, false, true, true, false, true, true, false, true, true, false, true, false, false, false, false, false, false, false] rfl rfl (any_of HT_.out (by kernel_rfl)) (fun _ _ _ h => h) (Or.inl ⟨by rfl, ?_⟩) ?_ ?_
                    rotate_left
                    · intro w'
                      go_simp
                      with_reducible rfl
                    rotate_left
                    · simp only [Act.put, List.setIfInBounds_toArray, List.set_cons_zero, List.set_cons_succ, i64_w, i32_w]
                      rfl
                    refine pure_ (i := 16) (N := some 82) (v := ?_) (a' := ?_) #[true, false, true, false, true, false, true, true, false, true, true, false, true, true, false, true, true, false, false, false, false, false, false] rfl rfl (any_of HT_.out (by kernel_rfl)) (fun _ _ _ h => h) (Or.inl ⟨by rfl, ?_⟩) ?_ ?_
                    rotate_left
                    · intro w'
                      go_simp
                      with_reducible rfl
                    rotate_left
                    · simp only [Act.put, List.setIfInBounds_toArray, List.set_cons_zero, List.set_cons_succ, i64_w, i32_w]
                      rfl
                    refine take_ (i := 1) (N := some 67) (v := ?_) (a' := ?_) #[true, true, true, false, true, false, true, true, false, true, true, false, true, true, false, true, true, false, false, false, false, false, false] rfl rfl (take_ofW HT_.out HW_.out (by kernel_rfl)) (fun _ _ _ h => h) (Or.inl ⟨by rfl, ?_⟩) hHeld ?_ ?_
                    rotate_left
                    · rintro w' ⟨s0, s1, s2, s3, s4, s5⟩
                      go_simp
                      with_reducible rfl
                    rotate_left
                    · simp only [Act.put, List.setIfInBounds_toArray, List.set_cons_zero, List.set_cons_succ, i64_w, i32_w]
                      rfl
                    refine take_ (i := 3) (N := some 69) (v := ?_) (a' := ?_) #[true, true, true, true, true, false, true, true, false, true, true, false, true, true, false, true, true, false, false, false, false, false, false] rfl rfl (take_ofW HT_.out HW_.out (by kernel_rfl)) (fun _ _ _ h => h) (Or.inl ⟨by rfl, ?_⟩) hHeld ?_ ?_
                    rotate_left
                    · rintro w' ⟨s0, s1, s2, s3, s4, s5⟩
                      go_simp
                      with_reducible rfl
                    rotate_left
                    · simp only [Act.put, List.setIfInBounds_toArray, List.set_cons_zero, List.set_cons_succ, i64_w, i32_w]
                      rfl
                    refine take_ (i := 5) (N := some 71) (v := ?_) (a' := ?_) #[true, true, true, true, true, true, true, true, false, true, true, false, true, true, false, true, true, false, false, false, false, false, false] rfl rfl (take_ofW HT_.out HW_.out (by kernel_rfl)) (fun _ _ _ h => h) (Or.inl ⟨by rfl, ?_⟩) hHeld ?_ ?_
                    rotate_left
                    · rintro w' ⟨s0, s1, s2, s3, s4, s5⟩
                      go_simp
                      with_reducible rfl
                    rotate_left
                    · simp only [Act.put, List.setIfInBounds_toArray, List.set_cons_zero, List.set_cons_succ, i64_w, i32_w]
                      rfl
                    refine take_ (i := 8) (N := some 74) (v := ?_) (a' := ?_) #[true, true, true, true, true, true, true, true, true, true, true, false, true, true, false, true, true, false, false, false, false, false, false] rfl rfl (take_ofW HT_.out HW_.out (by kernel_rfl)) (fun _ _ _ h => h) (Or.inl ⟨by rfl, ?_⟩) hHeld ?_ ?_
                    rotate_left
                    · rintro w' ⟨s0, s1, s2, s3, s4, s5⟩
                      go_simp
                      with_reducible rfl
                    rotate_left
                    · simp only [Act.put, List.setIfInBounds_toArray, List.set_cons_zero, List.set_cons_succ, i64_w, i32_w]
                      rfl
                    refine pure_ (i := 11) (N := some 77) (v := ?_) (a' := ?_) #[true, true, true, true, true, true, true, true, true, true, true, true, true, true, false, true, true, false, false, false, false, false, false] rfl rfl (any_of HT_.out (by kernel_rfl)) (fun _ _ _ h => h) (Or.inl ⟨by rfl, ?_⟩) ?_ ?_
                    rotate_left
                    · intro w'
                      go_simp
                      with_reducible rfl
                    rotate_left
                    · simp only [Act.put, List.setIfInBounds_toArray, List.set_cons_zero, List.set_cons_succ, i64_w, i32_w]
                      rfl
                    refine take_ (i := 14) (N := some 80) (v := ?_) (a' := ?_) #[true, true, true, true, true, true, true, true, true, true, true, true, true, true, true, true, true, false, false, false, false, false, false] rfl rfl (take_ofW HT_.out HW_.out (by kernel_rfl)) (fun _ _ _ h => h) (Or.inl ⟨by rfl, ?_⟩) hHeld ?_ ?_
                    rotate_left
                    · rintro w' ⟨s0, s1, s2, s3, s4, s5⟩
                      go_simp
                      with_reducible rfl
                    rotate_left
                    · simp only [Act.put, List.setIfInBounds_toArray, List.set_cons_zero, List.set_cons_succ, i64_w, i32_w]
                      rfl
                    refine pure_ (i := 17) (N := some 83) (v := ?_) (a' := ?_) #[true, true, true, true, true, true, true, true, true, true, true, true, true, true, true, true, true, true, false, false, false, false, false] rfl rfl (any_of HT_.out (by kernel_rfl)) (fun _ _ _ h => h) (Or.inl ⟨by rfl, ?_⟩) ?_ ?_
                    rotate_left
                    · intro w'
                      go_simp
                      with_reducible rfl
                    rotate_left
                    · simp only [Act.put, List.setIfInBounds_toArray, List.set_cons_zero, List.set_cons_succ, i64_w, i32_w]
                      rfl
                    refine one_ (i := 18) (N := some 84) #[true, true, true, true, true, true, true, true, true, true, true, true, true, true, true, true, true, true, true, false, false, false, false] rfl rfl (one_of HT_.out (by kernel_rfl)) (by decide) (fun K hK => ?_)
                    refine goes_ Try.func46 (by kernel_rfl) rfl #[.int .i64 ((rd_T58 l0_1 x15_1).f0), .int .i64 ((rd_T58 l0_1 x15_1).f1), .int .i64 (wrap64 (((rd_T58 l0_1 x15_1).f2.f0) + (wrap64 (a2)))), .int .i64 (wrap64 (((rd_T58 l0_1 x15_1).f2.f1) + (wrap64 (a2))))] (by rfl) rfl rfl (by (try simp only [List.map_toArray, List.map_cons, List.map_nil]); first | done | rfl | (simp only [List.length_drop, List.length_take]; rfl)) ?_
                    with_reducible refine (forecourtlaw05_Move.calls ((rd_T58 l0_1 x15_1).f0) ((rd_T58 l0_1 x15_1).f1) (wrap64 (((rd_T58 l0_1 x15_1).f2.f0) + (wrap64 (a2)))) (wrap64 (((rd_T58 l0_1 x15_1).f2.f1) + (wrap64 (a2)))) t411 t412 t413 t414 _ A27.out).mono ?_
                    rintro e w44 ⟨rfl, hb⟩
                    refine ⟨_, rfl, ?_⟩
                    have n0_ := Aside0.mk (Kd.R_below (by (with_reducible repeat (first | apply Kd.R_alloc | apply Kd.R_drewN | apply Kd.R_drew)); exact HO_408001.out) hb)
                    have n1_ := Aside0.mk (Kd.R_below (by (with_reducible repeat (first | apply Kd.R_alloc | apply Kd.R_drewN | apply Kd.R_drew)); exact HO_409001.out) hb)
                    have n2_ := Aside0.mk (blk_below (g := gb403) (o := .cells #[.int .i64 a0_0, .slice (some ad409) l0_1.length c0_1] 24 (0, 0)) (by (with_reducible repeat (first | refine blk_drewN ?_ _ | refine blk_drew ?_ | refine blk_alloc ?_ _)); exact BK403.out) hb)
                    have n3_ := Aside0.mk (blk_below (g := gb404) (o := .cells #[.int .i64 a1_0, .int .i64 a1_1] 26 (0, 0)) (by (with_reducible repeat (first | refine blk_drewN ?_ _ | refine blk_drew ?_ | refine blk_alloc ?_ _)); exact BK404.out) hb)
                    have n4_ := Aside0.mk (blk_below (g := gb407) (o := .cells #[.int .i64 a0_0, u408001] 24 (0, 0)) (by (with_reducible repeat (first | refine blk_drewN ?_ _ | refine blk_drew ?_ | refine blk_alloc ?_ _)); exact BK407.out) hb)
                    have n5_ := Aside0.mk (blk_below (g := gb408) (o := .cells #[.int .i64 a0_0, u409001] 24 (0, 0)) (by (with_reducible repeat (first | refine blk_drewN ?_ _ | refine blk_drew ?_ | refine blk_alloc ?_ _)); exact BK408.out) hb)
                    have n6_ := Aside0.mk (blk_below (g := gb410) (o := .cells #[.int .i64 ((rd_T58 l0_1 x15_1).f0), .int .i64 ((rd_T58 l0_1 x15_1).f1), .int .i64 ((rd_T58 l0_1 x15_1).f2.f0), .int .i64 ((rd_T58 l0_1 x15_1).f2.f1)] 58 (0, 0)) (by (with_reducible repeat (first | refine blk_drewN ?_ _ | refine blk_drew ?_ | refine blk_alloc ?_ _)); exact BK410.out) hb)
                    have n7_ := Aside0.mk (below_step (by repeat (first | (with_reducible first | exact HB.out | apply below_alloc | apply pw_below_drewN | apply below_drew1 | refine below_set ?_ GE403.out | refine below_set ?_ GE404.out | refine below_set ?_ GE407.out | refine below_set ?_ GE408.out | refine below_set ?_ GE410.out) | exact HB.out)) hb)
                    clear HO_408001
                    clear HO_409001
                    clear BK403
                    clear BK404
                    clear BK407
                    clear BK408
                    clear BK410
                    clear HB
                    have HO_408001 := n0_
                    have HO_409001 := n1_
                    have BK403 := n2_
                    have BK404 := n3_
                    have BK407 := n4_
                    have BK408 := n5_
                    have BK410 := n6_
                    have HB := n7_
                    clear n0_ n1_ n2_ n3_ n4_ n5_ n6_ n7_
                    (try clear hb)
                    (try clear hb2)
                    (try clear hk)
                    (try clear hi)
                    refine hK.out _ _ ⟨(blk_cell BK407.out 0).trans rfl, (blk_cell BK407.out 1).trans rfl, (blk_cell BK410.out 0).trans rfl, (blk_cell BK410.out 1).trans rfl, (blk_cell BK410.out 2).trans rfl, (blk_cell BK410.out 3).trans rfl⟩ (fun hHeld => ?_)
                    clear hK K
                    refine norm_ (a' := ?_) ?_ ?_
                    rotate_left
                    · show Act.put _ (some 84) _ = _
                      simp only [Act.put, List.setIfInBounds_toArray, List.set_cons_zero, List.set_cons_succ, i64_w, i32_w]
                      rfl
                    refine one_ (i := 19) (N := some 85) #[true, true, true, true, true, true, true, true, true, true, true, true, true, true, true, true, true, true, true, true, false, false, false] rfl rfl (one_of HT_.out (by kernel_rfl)) (by decide) (fun K hK => ?_)
                    refine value_ (w1 := ?_) (v := ?_) (by rfl) rfl ?_ ?_
                    rotate_left 2
                    · go_simp
                      constructor
                      · rfl
                      · rfl
                    refine hK.out _ _ ⟨(blk_cell (blk_alloc BK407.out _) 0).trans rfl, (blk_cell (blk_alloc BK407.out _) 1).trans rfl, (blk_cell (blk_alloc BK410.out _) 0).trans rfl, (blk_cell (blk_alloc BK410.out _) 1).trans rfl, (blk_cell (blk_alloc BK410.out _) 2).trans rfl, (blk_cell (blk_alloc BK410.out _) 3).trans rfl⟩ (fun hHeld => ?_)
                    clear hK K
                    refine norm_ (a' := ?_) ?_ ?_
                    rotate_left
                    · show Act.put _ (some 85) _ = _
                      simp only [Act.put, List.setIfInBounds_toArray, List.set_cons_zero, List.set_cons_succ, i64_w, i32_w]
                      rfl
                    refine one_ (i := 20) (N := some 86) #[true, true, true, true, true, true, true, true, true, true, true, true, true, true, true, true, true, true, true, true, true, false, false] rfl rfl (one_of HT_.out (by kernel_rfl)) (by decide) (fun K hK => ?_)
                    refine Kd.R_append_step k58 (w0 := w) w.heap.size (by rfl) (.tmp 67) (.tmp 85) 22 58 (.agg #[(.int .i64 0), (.int .i64 0), (.int .i64 0), (.int .i64 0)]) 32 rfl Try.underlying22 info58 rfl (by decide) (by omega) u408001 x408001_1 (⟨t411, t412, (⟨t413, t414⟩ : S56)⟩ : S58) [.int .i64 t411, .int .i64 t412, .int .i64 t413, .int .i64 t414] (fun k_ => some k_ ≠ (u409001 : Value).ownBlock ∧ k_ ≠ gb410) (fun _ => False) rfl rfl ?aP (fun _ hk => hk.elim) ?aF ?aO ?aB ?aS ?aL ?_
                    (case aP => exact k58_mkM _ _ _ (⟨t411, t412, (⟨t413, t414⟩ : S56)⟩ : S58))
                    (case aB => exact (by repeat (first | (with_reducible first | exact HB.out | apply below_alloc | apply pw_below_drewN | apply below_drew1 | refine below_set ?_ GE403.out | refine below_set ?_ GE404.out | refine below_set ?_ GE407.out | refine below_set ?_ GE408.out | refine below_set ?_ GE410.out) | exact HB.out)))
                    (case aF => exact (fun k_ hk => ⟨Kd.fresh' (Kd.R_lt (by (with_reducible repeat (first | apply Kd.R_alloc | apply Kd.R_drewN | apply Kd.R_drew)); exact HO_409001.out)) k_ hk, Kd.freshB (g := gb410) (o := .cells #[.int .i64 ((rd_T58 l0_1 x15_1).f0), .int .i64 ((rd_T58 l0_1 x15_1).f1), .int .i64 ((rd_T58 l0_1 x15_1).f2.f0), .int .i64 ((rd_T58 l0_1 x15_1).f2.f1)] 58 (0, 0)) (by (with_reducible repeat (first | refine blk_drewN ?_ _ | refine blk_drew ?_ | refine blk_alloc ?_ _)); exact BK410.out) k_ hk⟩))
                    (case aO => exact (by (with_reducible repeat (first | apply Kd.R_alloc | apply Kd.R_drewN | apply Kd.R_drew)); exact HO_408001.out))
                    (case aS => exact (below_size (by repeat (first | (with_reducible first | exact HB.out | apply below_alloc | apply pw_below_drewN | apply below_drew1 | refine below_set ?_ GE403.out | refine below_set ?_ GE404.out | refine below_set ?_ GE407.out | refine below_set ?_ GE408.out | refine below_set ?_ GE410.out) | exact HB.out))))
                    (case aL => have := LMc28.out; omega)
                    intro v416 w45 ho hb hg hat
                    rw [← Ny415.out] at ho
                    have n0_ := Aside0.mk (Kd.R_after (ok := (fun k_ => k_ ≠ gb410)) (by (with_reducible repeat (first | apply Kd.R_alloc | apply Kd.R_drewN | apply Kd.R_drew)); exact Kd.R_mono HO_409001.out (fun _ hk => ⟨hk.2, hk.1⟩)) hg hat)
                    have n1_ := Aside0.mk (blk_grown (g := gb403) (o := .cells #[.int .i64 a0_0, .slice (some ad409) l0_1.length c0_1] 24 (0, 0)) (by (with_reducible repeat (first | refine blk_drewN ?_ _ | refine blk_drew ?_ | refine blk_alloc ?_ _)); exact BK403.out) hg (Kd.R_ne HO_408001.out BK403.out (by decide)))
                    have n2_ := Aside0.mk (blk_grown (g := gb404) (o := .cells #[.int .i64 a1_0, .int .i64 a1_1] 26 (0, 0)) (by (with_reducible repeat (first | refine blk_drewN ?_ _ | refine blk_drew ?_ | refine blk_alloc ?_ _)); exact BK404.out) hg (Kd.R_ne HO_408001.out BK404.out (by decide)))
                    have n3_ := Aside0.mk (blk_grown (g := gb407) (o := .cells #[.int .i64 a0_0, u408001] 24 (0, 0)) (by (with_reducible repeat (first | refine blk_drewN ?_ _ | refine blk_drew ?_ | refine blk_alloc ?_ _)); exact BK407.out) hg (Kd.R_ne HO_408001.out BK407.out (by decide)))
                    have n4_ := Aside0.mk (blk_grown (g := gb408) (o := .cells #[.int .i64 a0_0, u409001] 24 (0, 0)) (by (with_reducible repeat (first | refine blk_drewN ?_ _ | refine blk_drew ?_ | refine blk_alloc ?_ _)); exact BK408.out) hg (Kd.R_ne HO_408001.out BK408.out (by decide)))
                    have n5_ := Aside0.mk (blk_grown (g := gb410) (o := .cells #[.int .i64 ((rd_T58 l0_1 x15_1).f0), .int .i64 ((rd_T58 l0_1 x15_1).f1), .int .i64 ((rd_T58 l0_1 x15_1).f2.f0), .int .i64 ((rd_T58 l0_1 x15_1).f2.f1)] 58 (0, 0)) (by (with_reducible repeat (first | refine blk_drewN ?_ _ | refine blk_drew ?_ | refine blk_alloc ?_ _)); exact BK410.out) hg (Kd.R_away HO_408001.out (fun _ hk => hk.2)))
                    have n6_ := Aside0.mk (hb)
                    have n7_ := Aside0.mk (ho)
                    clear HO_409001
                    clear BK403
                    clear BK404
                    clear BK407
                    clear BK408
                    clear BK410
                    clear HB
                    clear HO_408001
                    have HO_409001 := n0_
                    have BK403 := n1_
                    have BK404 := n2_
                    have BK407 := n3_
                    have BK408 := n4_
                    have BK410 := n5_
                    have HB := n6_
                    have HO417 := n7_
                    clear n0_ n1_ n2_ n3_ n4_ n5_ n6_ n7_
                    clear ho hb hg hat
                    obtain ⟨Ao46, co46, eo46⟩ := Kd.R_slice HO417.out
                    (first | subst eo46 | (injection eo46 with f1_ f2_ f3_; have f4_ := f1_.symm; have f5_ := f3_.symm; clear f1_ f2_ f3_; subst f4_; subst f5_))
                    refine hK.out _ _ ⟨(blk_cell BK407.out 0).trans rfl, (blk_cell BK407.out 1).trans rfl, (blk_cell BK410.out 0).trans rfl, (blk_cell BK410.out 1).trans rfl, (blk_cell BK410.out 2).trans rfl, (blk_cell BK410.out 3).trans rfl⟩ (fun hHeld => ?_)
                    clear hK K
                    refine norm_ (a' := ?_) ?_ ?_
                    rotate_left
                    · show Act.put _ (some 86) _ = _
                      simp only [Act.put, List.setIfInBounds_toArray, List.set_cons_zero, List.set_cons_succ, i64_w, i32_w]
                      rfl
                    refine pure_ (i := 21) (N := some 87) (v := ?_) (a' := ?_) #[true, true, true, true, true, true, true, true, true, true, true, true, true, true, true, true, true, true, true, true, true, true, false] rfl rfl (any_of HT_.out (by kernel_rfl)) (fun _ _ _ h => h) (Or.inl ⟨by rfl, ?_⟩) ?_ ?_
                    rotate_left
                    · intro w'
                      go_simp
                      with_reducible rfl
                    rotate_left
                    · simp only [Act.put, List.setIfInBounds_toArray, List.set_cons_zero, List.set_cons_succ, i64_w, i32_w]
                      rfl
                    refine last_ (i := 22) (N := none) #[true, true, true, true, true, true, true, true, true, true, true, true, true, true, true, true, true, true, true, true, true, true, true] rfl rfl (one_of HT_.out (by kernel_rfl)) (by decide) (fun K hK => ?_)
                    have hs47 : w45.cell? ⟨gb407, 1, none⟩ = some (u408001) := (blk_cell BK407.out 1).trans rfl
                    have hfs47 := blk_frozen BK407.out 1
                    have hns47_0 := NB403_407.out
                    have hns47_1 := NB404_407.out
                    have hns47_3 := NB408_407.out
                    have hns47_4 := NB410_407.out
                    have hms47_0 := NB407_403.out
                    have hms47_1 := NB407_404.out
                    have hms47_3 := NB407_408.out
                    have hms47_4 := NB407_410.out
                    refine skip_ (w1 := ?_) (by rfl) rfl ?_ ?_
                    rotate_left
                    · go_simp
                      rfl
                    refine hK.out _ _ ?_
                    clear hK K
                    refine done_ (done_of HT_.out (by kernel_rfl)) ?_
                    try go_wp2
                    have n0_ : Aside0 (Kd.R k58 58 (w45.setCell ⟨gb407, 1, none⟩ (.slice Ao46 y415.length co46)) w.heap.size (fun k_ => some k_ ≠ (.slice Ao46 y415.length co46 : Value).ownBlock ∧ k_ ≠ gb410) u409001 x409001_1) := ⟨by (with_reducible repeat (first | apply Kd.R_alloc | apply Kd.R_drewN | apply Kd.R_drew)); exact Kd.R_mono (Kd.R_far (p := ⟨gb407, 1, none⟩) (Kd.R_types HO_409001.out BK407.out (by decide)) (fun _ hk => hk.2) (.slice Ao46 y415.length co46)) (fun _ hk => ⟨hk.1.2, hk.1.1⟩)⟩
                    have n1_ : Aside0 (Kd.R k58 58 (w45.setCell ⟨gb407, 1, none⟩ (.slice Ao46 y415.length co46)) w.heap.size (fun k_ => some k_ ≠ (u409001 : Value).ownBlock ∧ k_ ≠ gb410) (.slice Ao46 y415.length co46) y415) := ⟨by (with_reducible repeat (first | apply Kd.R_alloc | apply Kd.R_drewN | apply Kd.R_drew)); exact Kd.R_mono (Kd.R_far (p := ⟨gb407, 1, none⟩) (Kd.R_types HO417.out BK407.out (by decide)) (fun _ hk => hk.2) (.slice Ao46 y415.length co46)) (fun _ hk => ⟨hk.1.1, hk.1.2⟩)⟩
                    have n2_ : Aside0 ((w45.setCell ⟨gb407, 1, none⟩ (.slice Ao46 y415.length co46)).heap[gb403]? = some (.cells #[.int .i64 a0_0, .slice (some ad409) l0_1.length c0_1] 24 (0, 0))) := ⟨by (with_reducible repeat (first | refine blk_drewN ?_ _ | refine blk_drew ?_ | refine blk_alloc ?_ _)); refine blk_far ?_ NB403_407.out _; (with_reducible repeat (first | refine blk_drewN ?_ _ | refine blk_drew ?_ | refine blk_alloc ?_ _)); exact BK403.out⟩
                    have n3_ : Aside0 ((w45.setCell ⟨gb407, 1, none⟩ (.slice Ao46 y415.length co46)).heap[gb404]? = some (.cells #[.int .i64 a1_0, .int .i64 a1_1] 26 (0, 0))) := ⟨by (with_reducible repeat (first | refine blk_drewN ?_ _ | refine blk_drew ?_ | refine blk_alloc ?_ _)); refine blk_far ?_ NB404_407.out _; (with_reducible repeat (first | refine blk_drewN ?_ _ | refine blk_drew ?_ | refine blk_alloc ?_ _)); exact BK404.out⟩
                    have n4_ : Aside0 ((w45.setCell ⟨gb407, 1, none⟩ (.slice Ao46 y415.length co46)).heap[gb407]? = some (.cells #[.int .i64 a0_0, .slice Ao46 y415.length co46] 24 (0, 0))) := ⟨by (with_reducible repeat (first | refine blk_drewN ?_ _ | refine blk_drew ?_ | refine blk_alloc ?_ _)); refine blk_put (cs := #[.int .i64 a0_0, u408001]) ?_ 1 _ rfl; (with_reducible repeat (first | refine blk_drewN ?_ _ | refine blk_drew ?_ | refine blk_alloc ?_ _)); exact BK407.out⟩
                    have n5_ : Aside0 ((w45.setCell ⟨gb407, 1, none⟩ (.slice Ao46 y415.length co46)).heap[gb408]? = some (.cells #[.int .i64 a0_0, u409001] 24 (0, 0))) := ⟨by (with_reducible repeat (first | refine blk_drewN ?_ _ | refine blk_drew ?_ | refine blk_alloc ?_ _)); refine blk_far ?_ NB408_407.out _; (with_reducible repeat (first | refine blk_drewN ?_ _ | refine blk_drew ?_ | refine blk_alloc ?_ _)); exact BK408.out⟩
                    have n6_ : Aside0 ((w45.setCell ⟨gb407, 1, none⟩ (.slice Ao46 y415.length co46)).heap[gb410]? = some (.cells #[.int .i64 ((rd_T58 l0_1 x15_1).f0), .int .i64 ((rd_T58 l0_1 x15_1).f1), .int .i64 ((rd_T58 l0_1 x15_1).f2.f0), .int .i64 ((rd_T58 l0_1 x15_1).f2.f1)] 58 (0, 0))) := ⟨by (with_reducible repeat (first | refine blk_drewN ?_ _ | refine blk_drew ?_ | refine blk_alloc ?_ _)); refine blk_far ?_ NB410_407.out _; (with_reducible repeat (first | refine blk_drewN ?_ _ | refine blk_drew ?_ | refine blk_alloc ?_ _)); exact BK410.out⟩
                    have n7_ : Aside0 (Below w.heap.size w (w45.setCell ⟨gb407, 1, none⟩ (.slice Ao46 y415.length co46))) := ⟨by repeat (first | (with_reducible first | exact HB.out | apply below_alloc | apply pw_below_drewN | apply below_drew1 | refine below_set ?_ GE403.out | refine below_set ?_ GE404.out | refine below_set ?_ GE407.out | refine below_set ?_ GE408.out | refine below_set ?_ GE410.out) | exact HB.out)⟩
                    (try clear HO_409001)
                    (try clear HO417)
                    (try clear BK403)
                    (try clear BK404)
                    (try clear BK407)
                    (try clear BK408)
                    (try clear BK410)
                    (try clear HB)
                    generalize (w45.setCell ⟨gb407, 1, none⟩ (.slice Ao46 y415.length co46)) = w48 at n0_ n1_ n2_ n3_ n4_ n5_ n6_ n7_ ⊢
                    have HO_409001 := n0_
                    have HO417 := n1_
                    have BK403 := n2_
                    have BK404 := n3_
                    have BK407 := n4_
                    have BK408 := n5_
                    have BK410 := n6_
                    have HB := n7_
                    clear n0_ n1_ n2_ n3_ n4_ n5_ n6_ n7_
                    have n0_ := Aside0.mk (Kd.R_drew HO_409001.out)
                    have n1_ := Aside0.mk (Kd.R_drew HO417.out)
                    have n2_ := Aside0.mk (blk_drew BK403.out)
                    have n3_ := Aside0.mk (blk_drew BK404.out)
                    have n4_ := Aside0.mk (blk_drew BK407.out)
                    have n5_ := Aside0.mk (blk_drew BK408.out)
                    have n6_ := Aside0.mk (blk_drew BK410.out)
                    have n7_ := Aside0.mk (below_drew1 HB.out)
                    clear HO_409001
                    clear HO417
                    clear BK403
                    clear BK404
                    clear BK407
                    clear BK408
                    clear BK410
                    clear HB
                    have HO_409001 := n0_
                    have HO417 := n1_
                    have BK403 := n2_
                    have BK404 := n3_
                    have BK407 := n4_
                    have BK408 := n5_
                    have BK410 := n6_
                    have HB := n7_
                    clear n0_ n1_ n2_ n3_ n4_ n5_ n6_ n7_
                    refine start_ (n := 27) (S := fun w' => w'.cell? ⟨gb408, 0, none⟩ = some (.int .i64 a0_0) ∧ w'.cell? ⟨gb408, 1, none⟩ = some (u409001) ∧ w'.cell? ⟨gb410, 0, none⟩ = some (.int .i64 ((rd_T58 l0_1 x15_1).f0)) ∧ w'.cell? ⟨gb410, 1, none⟩ = some (.int .i64 ((rd_T58 l0_1 x15_1).f1)) ∧ w'.cell? ⟨gb410, 2, none⟩ = some (.int .i64 ((rd_T58 l0_1 x15_1).f2.f0)) ∧ w'.cell? ⟨gb410, 3, none⟩ = some (.int .i64 ((rd_T58 l0_1 x15_1).f2.f1))) (ds := [26]) #[false, false, false, false, false, false, false, false, false, false, false, false, false, false, false, false, false, false, false, false, false, false, false, false, false, false, false] (by kernel_rfl) rfl rfl ⟨(blk_cell BK408.out 0).trans rfl, (blk_cell BK408.out 1).trans rfl, (blk_cell BK410.out 0).trans rfl, (blk_cell BK410.out 1).trans rfl, (blk_cell BK410.out 2).trans rfl, (blk_cell BK410.out 3).trans rfl⟩ (fun hHeld => ?_); refine with_tabW forecourtlaw05_TaintTurned.tab11 forecourtlaw05_TaintTurned.bits11 (fun HT_ HW_ => ?_)
                    generalize w48.drew = w49 at HO_409001 HO417 BK403 BK404 BK407 BK408 BK410 HB hHeld ⊢
                    refine pure_ (i := 0) (N := some 88) (v := ?_) (a' := ?_) #[true, false, false, false, false, false, false, false, false, false, false, false, false, false, false, false, false, false, false, false, false, false, false, false, false, false, false] rfl rfl (any_of HT_.out (by kernel_rfl)) (fun _ _ _ h => h) (Or.inl ⟨by rfl, ?_⟩) ?_ ?_
                    rotate_left
                    · intro w'
                      go_simp
                      with_reducible rfl
                    rotate_left
                    · simp only [Act.put, List.setIfInBounds_toArray, List.set_cons_zero, List.set_cons_succ, i64_w, i32_w]
                      rfl
                    refine pure_ (i := 2) (N := some 90) (v := ?_) (a' := ?_) #[true, false, true, false, false, false, false, false, false, false, false, false, false, false, false, false, false, false, false, false, false, false, false, false, false, false, false] rfl rfl (any_of HT_.out (by kernel_rfl)) (fun _ _ _ h => h) (Or.inl ⟨by rfl, ?_⟩) ?_ ?_
                    rotate_left
                    · intro w'
                      go_simp
                      with_reducible rfl
                    rotate_left
                    · simp only [Act.put, List.setIfInBounds_toArray, List.set_cons_zero, List.set_cons_succ, i64_w, i32_w]
                      rfl
                    refine pure_ (i := 4) (N := some 92) (v := ?_) (a' := ?_) #[true, false, true, false, true, false, false, false, false, false, false, false, false, false, false, false, false, false, false, false, false, false, false, false, false, false, false] rfl rfl (any_of HT_.out (by kernel_rfl)) (fun _ _ _ h => h) (Or.inl ⟨by rfl, ?_⟩) ?_ ?_
                    rotate_left
                    · intro w'
                      go_simp
                      with_reducible rfl
                    rotate_left
                    · simp only [Act.put, List.setIfInBounds_toArray, List.set_cons_zero, List.set_cons_succ, i64_w, i32_w]
                      rfl
                    refine pure_ (i := 5) (N := some 93) (v := ?_) (a' := ?_) #[true, false, true, false, true, true, false, false, false, false, false, false, false, false, false, false, false, false, false, false, false, false, false, false, false, false, false] rfl rfl (any_of HT_.out (by kernel_rfl)) (fun _ _ _ h => h) (Or.inl ⟨by rfl, ?_⟩) ?_ ?_
                    rotate_left
                    · intro w'
                      go_simp
                      with_reducible rfl
                    rotate_left
                    · simp only [Act.put, List.setIfInBounds_toArray, List.set_cons_zero, List.set_cons_succ, i64_w, i32_w]
                      rfl
                    refine pure_ (i := 7) (N := some 95) (v := ?_) (a' := ?_) #[true, false, true, false, true, true, false, true, false, false, false, false, false, false, false, false, false, false, false, false, false, false, false, false, false, false, false] rfl rfl (any_of HT_.out (by kernel_rfl)) (fun _ _ _ h => h) (Or.inl ⟨by rfl, ?_⟩) ?_ ?_
                    rotate_left
                    · intro w'
                      go_simp
                      with_reducible rfl
                    rotate_left
                    · simp only [Act.put, List.setIfInBounds_toArray, List.set_cons_zero, List.set_cons_succ, i64_w, i32_w]
                      rfl
                    refine pure_ (i := 9) (N := some 97) (v := ?_) (a' := ?_) #[true, false, true, false, true, true, false, true, false, true, false, false, false, false, false, false, false, false, false, false, false, false, false, false, false, false, false] rfl rfl (any_of HT_.out (by kernel_rfl)) (fun _ _ _ h => h) (Or.inl ⟨by rfl, ?_⟩) ?_ ?_
                    rotate_left
                    · intro w'
                      go_simp
                      with_reducible rfl
                    rotate_left
                    · simp only [Act.put, List.setIfInBounds_toArray, List.set_cons_zero, List.set_cons_succ, i64_w, i32_w]
                      rfl
                    refine pure_ (i := 11) (N := some 99) (v := ?_) (a' := ?_) #[true, false, true, false, true, true, false, true, false, true, false, true, false, false, false, false, false, false, false, false, false, false, false, false, false, false, false] rfl rfl (any_of HT_.out (by kernel_rfl)) (fun _ _ _ h => h) (Or.inl ⟨by rfl, ?_⟩) ?_ ?_
                    rotate_left
                    · intro w'
                      go_simp
                      with_reducible rfl
                    rotate_left
                    · simp only [Act.put, List.setIfInBounds_toArray, List.set_cons_zero, List.set_cons_succ, i64_w, i32_w]
                      rfl
                    refine pure_ (i := 12) (N := some 100) (v := ?_) (a' := ?_) #[true, false, true, false, true, true, false, true, false, true, false, true, true, false, false, false, false, false, false, false, false, false, false, false, false, false, false] rfl rfl (any_of HT_.out (by kernel_rfl)) (fun _ _ _ h => h) (Or.inl ⟨by rfl, ?_⟩) ?_ ?_
                    rotate_left
                    · intro w'
                      go_simp
                      with_reducible rfl
                    rotate_left
                    · simp only [Act.put, List.setIfInBounds_toArray, List.set_cons_zero, List.set_cons_succ, i64_w, i32_w]
                      rfl
                    refine pure_ (i := 14) (N := some 102) (v := ?_) (a' := ?_) #[true, false, true, false, true, true, false, true, false, true, false, true, true, false, true, false, false, false, false, false, false, false, false, false, false, false, false] rfl rfl (any_of HT_.out (by kernel_rfl)) (fun _ _ _ h => h) (Or.inl ⟨by rfl, ?_⟩) ?_ ?_
                    rotate_left
                    · intro w'
                      go_simp
                      with_reducible rfl
                    rotate_left
                    · simp only [Act.put, List.setIfInBounds_toArray, List.set_cons_zero, List.set_cons_succ, i64_w, i32_w]
                      rfl
                    refine pure_ (i := 16) (N := some 104) (v := ?_) (a' := ?_) #[true, false, true, false, true, true, false, true, false, true, false, true, true, false, true, false, true, false, false, false, false, false, false, false, false, false, false] rfl rfl (any_of HT_.out (by kernel_rfl)) (fun _ _ _ h => h) (Or.inl ⟨by rfl, ?_⟩) ?_ ?_
                    rotate_left
                    · intro w'
                      go_simp
                      with_reducible rfl
                    rotate_left
                    · simp only [Act.put, List.setIfInBounds_toArray, List.set_cons_zero, List.set_cons_succ, i64_w, i32_w]
                      rfl
                    refine pure_ (i := 17) (N := some 105) (v := ?_) (a' := ?_) #[true, false, true, false, true, true, false, true, false, true, false, true, true, false, true, false, true, true, false, false, false, false, false, false, false, false, false] rfl rfl (any_of HT_.out (by kernel_rfl)) (fun _ _ _ h => h) (Or.inl ⟨by rfl, ?_⟩) ?_ ?_
                    rotate_left
                    · intro w'
                      go_simp
                      with_reducible rfl
                    rotate_left
                    · simp only [Act.put, List.setIfInBounds_toArray, List.set_cons_zero, List.set_cons_succ, i64_w, i32_w]
                      rfl
                    refine pure_ (i := 19) (N := some 107) (v := ?_) (a' := ?_) #[true, false, true, false, true, true, false, true, false, true, false, true, true, false, true, false, true, true, false, true, false, false, false, false, false, false, false] rfl rfl (any_of HT_.out (by kernel_rfl)) (fun _ _ _ h => h) (Or.inl ⟨by rfl, ?_⟩) ?_ ?_
                    rotate_left
                    · intro w'
                      go_simp
                      with_reducible rfl
                    rotate_left
                    · simp only [Act.put, List.setIfInBounds_toArray, List.set_cons_zero, List.set_cons_succ, i64_w, i32_w]
                      rfl
                    refine pure_ (i := 20) (N := some 108) (v := ?_) (a' := ?_) #[true, false, true, false, true, true, false, true, false, true, false, true, true, false, true, false, true, true, false, true, true, false, false, false, false, false, false] rfl rfl (any_of HT_.out (by kernel_rfl)) (fun _ _ _ h => h) (Or.inl ⟨by rfl, ?_⟩) ?_ ?_
                    rotate_left
                    · intro w'
                      go_simp
                      with_reducible rfl
                    rotate_left
                    · simp only [Act.put, List.setIfInBounds_toArray, List.set_cons_zero, List.set_cons_succ, i64_w, i32_w]
                      rfl
                    refine take_ (i := 1) (N := some 89) (v := ?_) (a' := ?_) #[true, true, true, false, true, true, false, true, false, true, false, true, true, false, true, false, true, true, false, true, true, false, false, false, false, false, false] rfl rfl (take_ofW HT_.out HW_.out (by kernel_rfl)) (fun _ _ _ h => h) (Or.inl ⟨by rfl, ?_⟩) hHeld ?_ ?_
                    rotate_left
                    · rintro w' ⟨s0, s1, s2, s3, s4, s5⟩
                      go_simp
                      with_reducible rfl
                    rotate_left
                    · simp only [Act.put, List.setIfInBounds_toArray, List.set_cons_zero, List.set_cons_succ, i64_w, i32_w]
                      rfl
                    refine take_ (i := 3) (N := some 91) (v := ?_) (a' := ?_) #[true, true, true, true, true, true, false, true, false, true, false, true, true, false, true, false, true, true, false, true, true, false, false, false, false, false, false] rfl rfl (take_ofW HT_.out HW_.out (by kernel_rfl)) (fun _ _ _ h => h) (Or.inl ⟨by rfl, ?_⟩) hHeld ?_ ?_
                    rotate_left
                    · rintro w' ⟨s0, s1, s2, s3, s4, s5⟩
                      go_simp
                      with_reducible rfl
                    rotate_left
                    · simp only [Act.put, List.setIfInBounds_toArray, List.set_cons_zero, List.set_cons_succ, i64_w, i32_w]
                      rfl
                    refine pure_ (i := 6) (N := some 94) (v := ?_) (a' := ?_) #[true, true, true, true, true, true, true, true, false, true, false, true, true, false, true, false, true, true, false, true, true, false, false, false, false, false, false] rfl rfl (any_of HT_.out (by kernel_rfl)) (fun _ _ _ h => h) (Or.inl ⟨by rfl, ?_⟩) ?_ ?_
                    rotate_left
                    · intro w'
                      go_simp
                      with_reducible rfl
                    rotate_left
                    · simp only [Act.put, List.setIfInBounds_toArray, List.set_cons_zero, List.set_cons_succ, i64_w, i32_w]
                      rfl
                    refine pure_ (i := 8) (N := some 96) (v := ?_) (a' := ?_) #[true, true, true, true, true, true, true, true, true, true, false, true, true, false, true, false, true, true, false, true, true, false, false, false, false, false, false] rfl rfl (any_of HT_.out (by kernel_rfl)) (fun _ _ _ h => h) (Or.inl ⟨by rfl, ?_⟩) ?_ ?_
                    rotate_left
                    · intro w'
                      go_simp
                      with_reducible rfl
                    rotate_left
                    · simp only [Act.put, List.setIfInBounds_toArray, List.set_cons_zero, List.set_cons_succ, i64_w, i32_w]
                      rfl
                    refine take_ (i := 10) (N := some 98) (v := ?_) (a' := ?_) #[true, true, true, true, true, true, true, true, true, true, true, true, true, false, true, false, true, true, false, true, true, false, false, false, false, false, false] rfl rfl (take_ofW HT_.out HW_.out (by kernel_rfl)) (fun _ _ _ h => h) (Or.inl ⟨by rfl, ?_⟩) hHeld ?_ ?_
                    rotate_left
                    · rintro w' ⟨s0, s1, s2, s3, s4, s5⟩
                      go_simp
                      with_reducible rfl
                    rotate_left
                    · simp only [Act.put, List.setIfInBounds_toArray, List.set_cons_zero, List.set_cons_succ, i64_w, i32_w]
                      rfl
                    refine pure_ (i := 13) (N := some 101) (v := ?_) (a' := ?_) #[true, true, true, true, true, true, true, true, true, true, true, true, true, true, true, false, true, true, false, true, true, false, false, false, false, false, false] rfl rfl (any_of HT_.out (by kernel_rfl)) (fun _ _ _ h => h) (Or.inl ⟨by rfl, ?_⟩) ?_ ?_
                    rotate_left
                    · intro w'
                      go_simp
                      with_reducible rfl
                    rotate_left
                    · simp only [Act.put, List.setIfInBounds_toArray, List.set_cons_zero, List.set_cons_succ, i64_w, i32_w]
                      rfl
                    refine pure_ (i := 15) (N := some 103) (v := ?_) (a' := ?_) #[true, true, true, true, true, true, true, true, true, true, true, true, true, true, true, true, true, true, false, true, true, false, false, false, false, false, false] rfl rfl (any_of HT_.out (by kernel_rfl)) (fun _ _ _ h => h) (Or.inl ⟨by rfl, ?_⟩) ?_ ?_
                    rotate_left
                    · intro w'
                      go_simp
                      with_reducible rfl
                    rotate_left
                    · simp only [Act.put, List.setIfInBounds_toArray, List.set_cons_zero, List.set_cons_succ, i64_w, i32_w]
                      rfl
                    refine take_ (i := 18) (N := some 106) (v := ?_) (a' := ?_) #[true, true, true, true, true, true, true, true, true, true, true, true, true, true, true, true, true, true, true, true, true, false, false, false, false, false, false] rfl rfl (take_ofW HT_.out HW_.out (by kernel_rfl)) (fun _ _ _ h => h) (Or.inl ⟨by rfl, ?_⟩) hHeld ?_ ?_
                    rotate_left
                    · rintro w' ⟨s0, s1, s2, s3, s4, s5⟩
                      go_simp
                      with_reducible rfl
                    rotate_left
                    · simp only [Act.put, List.setIfInBounds_toArray, List.set_cons_zero, List.set_cons_succ, i64_w, i32_w]
                      rfl
                    refine take_ (i := 21) (N := some 109) (v := ?_) (a' := ?_) #[true, true, true, true, true, true, true, true, true, true, true, true, true, true, true, true, true, true, true, true, true, true, false, false, false, false, false] rfl rfl (take_ofW HT_.out HW_.out (by kernel_rfl)) (fun _ _ _ h => h) (Or.inl ⟨by rfl, ?_⟩) hHeld ?_ ?_
                    rotate_left
                    · rintro w' ⟨s0, s1, s2, s3, s4, s5⟩
                      go_simp
                      with_reducible rfl
                    rotate_left
                    · simp only [Act.put, List.setIfInBounds_toArray, List.set_cons_zero, List.set_cons_succ, i64_w, i32_w]
                      rfl
                    refine one_ (i := 22) (N := some 110) #[true, true, true, true, true, true, true, true, true, true, true, true, true, true, true, true, true, true, true, true, true, true, true, false, false, false, false] rfl rfl (one_of HT_.out (by kernel_rfl)) (by decide) (fun K hK => ?_)
                    refine goes_ Try.func46 (by kernel_rfl) rfl #[.int .i64 (Int.tmod (wrap64 (((rd_T58 l0_1 x15_1).f0) + (wrap64 (a3)))) a0_0), .int .i64 (Int.tmod (wrap64 (((rd_T58 l0_1 x15_1).f1) + (wrap64 (a3)))) a0_0), .int .i64 ((rd_T58 l0_1 x15_1).f2.f0), .int .i64 ((rd_T58 l0_1 x15_1).f2.f1)] (by rfl) rfl rfl (by (try simp only [List.map_toArray, List.map_cons, List.map_nil]); first | done | rfl | (simp only [List.length_drop, List.length_take]; rfl)) ?_
                    with_reducible refine (forecourtlaw05_Move.calls (Int.tmod (wrap64 (((rd_T58 l0_1 x15_1).f0) + (wrap64 (a3)))) a0_0) (Int.tmod (wrap64 (((rd_T58 l0_1 x15_1).f1) + (wrap64 (a3)))) a0_0) ((rd_T58 l0_1 x15_1).f2.f0) ((rd_T58 l0_1 x15_1).f2.f1) t418 t419 t420 t421 _ A30.out).mono ?_
                    rintro e w50 ⟨rfl, hb⟩
                    refine ⟨_, rfl, ?_⟩
                    have n0_ := Aside0.mk (Kd.R_below (by (with_reducible repeat (first | apply Kd.R_alloc | apply Kd.R_drewN | apply Kd.R_drew)); exact HO_409001.out) hb)
                    have n1_ := Aside0.mk (Kd.R_below (by (with_reducible repeat (first | apply Kd.R_alloc | apply Kd.R_drewN | apply Kd.R_drew)); exact HO417.out) hb)
                    have n2_ := Aside0.mk (blk_below (g := gb403) (o := .cells #[.int .i64 a0_0, .slice (some ad409) l0_1.length c0_1] 24 (0, 0)) (by (with_reducible repeat (first | refine blk_drewN ?_ _ | refine blk_drew ?_ | refine blk_alloc ?_ _)); exact BK403.out) hb)
                    have n3_ := Aside0.mk (blk_below (g := gb404) (o := .cells #[.int .i64 a1_0, .int .i64 a1_1] 26 (0, 0)) (by (with_reducible repeat (first | refine blk_drewN ?_ _ | refine blk_drew ?_ | refine blk_alloc ?_ _)); exact BK404.out) hb)
                    have n4_ := Aside0.mk (blk_below (g := gb407) (o := .cells #[.int .i64 a0_0, .slice Ao46 y415.length co46] 24 (0, 0)) (by (with_reducible repeat (first | refine blk_drewN ?_ _ | refine blk_drew ?_ | refine blk_alloc ?_ _)); exact BK407.out) hb)
                    have n5_ := Aside0.mk (blk_below (g := gb408) (o := .cells #[.int .i64 a0_0, u409001] 24 (0, 0)) (by (with_reducible repeat (first | refine blk_drewN ?_ _ | refine blk_drew ?_ | refine blk_alloc ?_ _)); exact BK408.out) hb)
                    have n6_ := Aside0.mk (blk_below (g := gb410) (o := .cells #[.int .i64 ((rd_T58 l0_1 x15_1).f0), .int .i64 ((rd_T58 l0_1 x15_1).f1), .int .i64 ((rd_T58 l0_1 x15_1).f2.f0), .int .i64 ((rd_T58 l0_1 x15_1).f2.f1)] 58 (0, 0)) (by (with_reducible repeat (first | refine blk_drewN ?_ _ | refine blk_drew ?_ | refine blk_alloc ?_ _)); exact BK410.out) hb)
                    have n7_ := Aside0.mk (below_step (by repeat (first | (with_reducible first | exact HB.out | apply below_alloc | apply pw_below_drewN | apply below_drew1 | refine below_set ?_ GE403.out | refine below_set ?_ GE404.out | refine below_set ?_ GE407.out | refine below_set ?_ GE408.out | refine below_set ?_ GE410.out) | exact HB.out)) hb)
                    clear HO_409001
                    clear HO417
                    clear BK403
                    clear BK404
                    clear BK407
                    clear BK408
                    clear BK410
                    clear HB
                    have HO_409001 := n0_
                    have HO417 := n1_
                    have BK403 := n2_
                    have BK404 := n3_
                    have BK407 := n4_
                    have BK408 := n5_
                    have BK410 := n6_
                    have HB := n7_
                    clear n0_ n1_ n2_ n3_ n4_ n5_ n6_ n7_
                    (try clear hb)
                    (try clear hb2)
                    (try clear hk)
                    (try clear hi)
                    refine hK.out _ _ ⟨(blk_cell BK408.out 0).trans rfl, (blk_cell BK408.out 1).trans rfl, (blk_cell BK410.out 0).trans rfl, (blk_cell BK410.out 1).trans rfl, (blk_cell BK410.out 2).trans rfl, (blk_cell BK410.out 3).trans rfl⟩ (fun hHeld => ?_)
                    clear hK K
                    refine norm_ (a' := ?_) ?_ ?_
                    rotate_left
                    · show Act.put _ (some 110) _ = _
                      simp only [Act.put, List.setIfInBounds_toArray, List.set_cons_zero, List.set_cons_succ, i64_w, i32_w]
                      rfl
                    refine one_ (i := 23) (N := some 111) #[true, true, true, true, true, true, true, true, true, true, true, true, true, true, true, true, true, true, true, true, true, true, true, true, false, false, false] rfl rfl (one_of HT_.out (by kernel_rfl)) (by decide) (fun K hK => ?_)
                    refine value_ (w1 := ?_) (v := ?_) (by rfl) rfl ?_ ?_
                    rotate_left 2
                    · go_simp
                      constructor
                      · rfl
                      · rfl
                    refine hK.out _ _ ⟨(blk_cell (blk_alloc BK408.out _) 0).trans rfl, (blk_cell (blk_alloc BK408.out _) 1).trans rfl, (blk_cell (blk_alloc BK410.out _) 0).trans rfl, (blk_cell (blk_alloc BK410.out _) 1).trans rfl, (blk_cell (blk_alloc BK410.out _) 2).trans rfl, (blk_cell (blk_alloc BK410.out _) 3).trans rfl⟩ (fun hHeld => ?_)
                    clear hK K
                    refine norm_ (a' := ?_) ?_ ?_
                    rotate_left
                    · show Act.put _ (some 111) _ = _
                      simp only [Act.put, List.setIfInBounds_toArray, List.set_cons_zero, List.set_cons_succ, i64_w, i32_w]
                      rfl
                    refine one_ (i := 24) (N := some 112) #[true, true, true, true, true, true, true, true, true, true, true, true, true, true, true, true, true, true, true, true, true, true, true, true, true, false, false] rfl rfl (one_of HT_.out (by kernel_rfl)) (by decide) (fun K hK => ?_)
                    refine Kd.R_append_step k58 (w0 := w) w.heap.size (by rfl) (.tmp 89) (.tmp 111) 22 58 (.agg #[(.int .i64 0), (.int .i64 0), (.int .i64 0), (.int .i64 0)]) 32 rfl Try.underlying22 info58 rfl (by decide) (by omega) u409001 x409001_1 (⟨t418, t419, (⟨t420, t421⟩ : S56)⟩ : S58) [.int .i64 t418, .int .i64 t419, .int .i64 t420, .int .i64 t421] (fun k_ => some k_ ≠ (.slice Ao46 y415.length co46 : Value).ownBlock ∧ k_ ≠ gb410) (fun _ => False) rfl rfl ?aP (fun _ hk => hk.elim) ?aF ?aO ?aB ?aS ?aL ?_
                    (case aP => exact k58_mkM _ _ _ (⟨t418, t419, (⟨t420, t421⟩ : S56)⟩ : S58))
                    (case aB => exact (by repeat (first | (with_reducible first | exact HB.out | apply below_alloc | apply pw_below_drewN | apply below_drew1 | refine below_set ?_ GE403.out | refine below_set ?_ GE404.out | refine below_set ?_ GE407.out | refine below_set ?_ GE408.out | refine below_set ?_ GE410.out) | exact HB.out)))
                    (case aF => exact (fun k_ hk => ⟨Kd.fresh' (Kd.R_lt (by (with_reducible repeat (first | apply Kd.R_alloc | apply Kd.R_drewN | apply Kd.R_drew)); exact HO417.out)) k_ hk, Kd.freshB (g := gb410) (o := .cells #[.int .i64 ((rd_T58 l0_1 x15_1).f0), .int .i64 ((rd_T58 l0_1 x15_1).f1), .int .i64 ((rd_T58 l0_1 x15_1).f2.f0), .int .i64 ((rd_T58 l0_1 x15_1).f2.f1)] 58 (0, 0)) (by (with_reducible repeat (first | refine blk_drewN ?_ _ | refine blk_drew ?_ | refine blk_alloc ?_ _)); exact BK410.out) k_ hk⟩))
                    (case aO => exact (by (with_reducible repeat (first | apply Kd.R_alloc | apply Kd.R_drewN | apply Kd.R_drew)); exact HO_409001.out))
                    (case aS => exact (below_size (by repeat (first | (with_reducible first | exact HB.out | apply below_alloc | apply pw_below_drewN | apply below_drew1 | refine below_set ?_ GE403.out | refine below_set ?_ GE404.out | refine below_set ?_ GE407.out | refine below_set ?_ GE408.out | refine below_set ?_ GE410.out) | exact HB.out))))
                    (case aL => have := LMc31.out; omega)
                    intro v423 w51 ho hb hg hat
                    rw [← Ny422.out] at ho
                    have n0_ := Aside0.mk (blk_grown (g := gb403) (o := .cells #[.int .i64 a0_0, .slice (some ad409) l0_1.length c0_1] 24 (0, 0)) (by (with_reducible repeat (first | refine blk_drewN ?_ _ | refine blk_drew ?_ | refine blk_alloc ?_ _)); exact BK403.out) hg (Kd.R_ne HO_409001.out BK403.out (by decide)))
                    have n1_ := Aside0.mk (blk_grown (g := gb404) (o := .cells #[.int .i64 a1_0, .int .i64 a1_1] 26 (0, 0)) (by (with_reducible repeat (first | refine blk_drewN ?_ _ | refine blk_drew ?_ | refine blk_alloc ?_ _)); exact BK404.out) hg (Kd.R_ne HO_409001.out BK404.out (by decide)))
                    have n2_ := Aside0.mk (blk_grown (g := gb407) (o := .cells #[.int .i64 a0_0, .slice Ao46 y415.length co46] 24 (0, 0)) (by (with_reducible repeat (first | refine blk_drewN ?_ _ | refine blk_drew ?_ | refine blk_alloc ?_ _)); exact BK407.out) hg (Kd.R_ne HO_409001.out BK407.out (by decide)))
                    have n3_ := Aside0.mk (blk_grown (g := gb408) (o := .cells #[.int .i64 a0_0, u409001] 24 (0, 0)) (by (with_reducible repeat (first | refine blk_drewN ?_ _ | refine blk_drew ?_ | refine blk_alloc ?_ _)); exact BK408.out) hg (Kd.R_ne HO_409001.out BK408.out (by decide)))
                    have n4_ := Aside0.mk (blk_grown (g := gb410) (o := .cells #[.int .i64 ((rd_T58 l0_1 x15_1).f0), .int .i64 ((rd_T58 l0_1 x15_1).f1), .int .i64 ((rd_T58 l0_1 x15_1).f2.f0), .int .i64 ((rd_T58 l0_1 x15_1).f2.f1)] 58 (0, 0)) (by (with_reducible repeat (first | refine blk_drewN ?_ _ | refine blk_drew ?_ | refine blk_alloc ?_ _)); exact BK410.out) hg (Kd.R_away HO_409001.out (fun _ hk => hk.2)))
                    have n5_ := Aside0.mk (Kd.R_after (ok := (fun k_ => k_ ≠ gb410)) (by (with_reducible repeat (first | apply Kd.R_alloc | apply Kd.R_drewN | apply Kd.R_drew)); exact Kd.R_mono HO417.out (fun _ hk => ⟨hk.2, hk.1⟩)) hg hat)
                    have n6_ := Aside0.mk (hb)
                    have n7_ := Aside0.mk (ho)
                    clear BK403
                    clear BK404
                    clear BK407
                    clear BK408
                    clear BK410
                    clear HO417
                    clear HB
                    clear HO_409001
                    have BK403 := n0_
                    have BK404 := n1_
                    have BK407 := n2_
                    have BK408 := n3_
                    have BK410 := n4_
                    have HO417 := n5_
                    have HB := n6_
                    have HO424 := n7_
                    clear n0_ n1_ n2_ n3_ n4_ n5_ n6_ n7_
                    clear ho hb hg hat
                    obtain ⟨Ao52, co52, eo52⟩ := Kd.R_slice HO424.out
                    (first | subst eo52 | (injection eo52 with f1_ f2_ f3_; have f4_ := f1_.symm; have f5_ := f3_.symm; clear f1_ f2_ f3_; subst f4_; subst f5_))
                    refine hK.out _ _ ⟨(blk_cell BK408.out 0).trans rfl, (blk_cell BK408.out 1).trans rfl, (blk_cell BK410.out 0).trans rfl, (blk_cell BK410.out 1).trans rfl, (blk_cell BK410.out 2).trans rfl, (blk_cell BK410.out 3).trans rfl⟩ (fun hHeld => ?_)
                    clear hK K
                    refine norm_ (a' := ?_) ?_ ?_
                    rotate_left
                    · show Act.put _ (some 112) _ = _
                      simp only [Act.put, List.setIfInBounds_toArray, List.set_cons_zero, List.set_cons_succ, i64_w, i32_w]
                      rfl
                    refine pure_ (i := 25) (N := some 113) (v := ?_) (a' := ?_) #[true, true, true, true, true, true, true, true, true, true, true, true, true, true, true, true, true, true, true, true, true, true, true, true, true, true, false] rfl rfl (any_of HT_.out (by kernel_rfl)) (fun _ _ _ h => h) (Or.inl ⟨by rfl, ?_⟩) ?_ ?_
                    rotate_left
                    · intro w'
                      go_simp
                      with_reducible rfl
                    rotate_left
                    · simp only [Act.put, List.setIfInBounds_toArray, List.set_cons_zero, List.set_cons_succ, i64_w, i32_w]
                      rfl
                    refine last_ (i := 26) (N := none) #[true, true, true, true, true, true, true, true, true, true, true, true, true, true, true, true, true, true, true, true, true, true, true, true, true, true, true] rfl rfl (one_of HT_.out (by kernel_rfl)) (by decide) (fun K hK => ?_)
                    have hs53 : w51.cell? ⟨gb408, 1, none⟩ = some (u409001) := (blk_cell BK408.out 1).trans rfl
                    have hfs53 := blk_frozen BK408.out 1
                    have hns53_0 := NB403_408.out
                    have hns53_1 := NB404_408.out
                    have hns53_2 := NB407_408.out
                    have hns53_4 := NB410_408.out
                    have hms53_0 := NB408_403.out
                    have hms53_1 := NB408_404.out
                    have hms53_2 := NB408_407.out
                    have hms53_4 := NB408_410.out
                    refine skip_ (w1 := ?_) (by rfl) rfl ?_ ?_
                    rotate_left
                    · go_simp
                      rfl
                    refine hK.out _ _ ?_
                    clear hK K
                    refine done_ (done_of HT_.out (by kernel_rfl)) ?_
                    try go_wp2
                    go_roundg k1
                    case measure => have := HK1.out; omega
                    case rel => exact ⟨(wrap64 (x15_1 + 1)), (y415), (y422), (.slice Ao46 y415.length co46), (.slice Ao52 y422.length co52), (by first | rfl | (simp; done) | (simp [*]; done)), H', ⟨by have := HK1.out; omega⟩, ⟨by (with_reducible repeat (first | apply Kd.R_alloc | apply Kd.R_drewN | apply Kd.R_drew)); exact Kd.R_mono (Kd.R_far (p := ⟨gb408, 1, none⟩) (Kd.R_types HO417.out BK408.out (by decide)) (fun _ hk => hk.2) (.slice Ao52 y422.length co52)) (fun _ hk => hk.1.2)⟩, ⟨by (with_reducible repeat (first | apply Kd.R_alloc | apply Kd.R_drewN | apply Kd.R_drew)); exact Kd.R_mono (Kd.R_far (p := ⟨gb408, 1, none⟩) (Kd.R_types HO424.out BK408.out (by decide)) (fun _ hk => hk.2) (.slice Ao52 y422.length co52)) (fun _ hk => hk.1.1)⟩, ⟨by (with_reducible repeat (first | refine blk_drewN ?_ _ | refine blk_drew ?_ | refine blk_alloc ?_ _)); refine blk_far ?_ NB403_408.out _; (with_reducible repeat (first | refine blk_drewN ?_ _ | refine blk_drew ?_ | refine blk_alloc ?_ _)); exact BK403.out⟩, ⟨by (with_reducible repeat (first | refine blk_drewN ?_ _ | refine blk_drew ?_ | refine blk_alloc ?_ _)); refine blk_far ?_ NB404_408.out _; (with_reducible repeat (first | refine blk_drewN ?_ _ | refine blk_drew ?_ | refine blk_alloc ?_ _)); exact BK404.out⟩, ⟨by (with_reducible repeat (first | refine blk_drewN ?_ _ | refine blk_drew ?_ | refine blk_alloc ?_ _)); refine blk_far ?_ NB407_408.out _; (with_reducible repeat (first | refine blk_drewN ?_ _ | refine blk_drew ?_ | refine blk_alloc ?_ _)); exact BK407.out⟩, ⟨by (with_reducible repeat (first | refine blk_drewN ?_ _ | refine blk_drew ?_ | refine blk_alloc ?_ _)); refine blk_put (cs := #[.int .i64 a0_0, u409001]) ?_ 1 _ rfl; (with_reducible repeat (first | refine blk_drewN ?_ _ | refine blk_drew ?_ | refine blk_alloc ?_ _)); exact BK408.out⟩, ⟨by repeat (first | (with_reducible first | exact HB.out | apply below_alloc | apply pw_below_drewN | apply below_drew1 | refine below_set ?_ GE403.out | refine below_set ?_ GE404.out | refine below_set ?_ GE407.out | refine below_set ?_ GE408.out | refine below_set ?_ GE410.out) | exact HB.out)⟩⟩
                  · rw [if_neg c31] at H
                    exact absurd H (by simp)
              · rw [if_neg c28] at H
                exact absurd H (by simp)
            · rw [if_neg c26] at H
              exact absurd H (by simp)
          · as_aux_lemma =>
            rw [if_neg c25] at H
            have c25b0 : decide (x15_1 < (l0_1.length : Int)) = false := decide_eq_false c25
            clear c25
            obtain ⟨e1_, e2_⟩ : x408001_1 = xl ∧ x409001_1 = zl := by simpa using H
            clear H
            have e3_ := e1_.symm
            have e4_ := e2_.symm
            clear e1_ e2_
            subst e3_ e4_
            obtain ⟨Ax, cx, hv⟩ := Kd.R_slice HO_408001.out
            subst hv
            obtain ⟨Az, cz, hv⟩ := Kd.R_slice HO_409001.out
            subst hv
            have HQ := Lib.hid (show QV w wr gb403 gb404 gb407 gb408 a0_0 a1_0 a1_1 A0_1 c0_1 l0_1 Ax cx xl Az cz zl from ⟨BK403.out, BK404.out, BK407.out, BK408.out, Kd.C_below HR0_1.out HB.out, HC0_1.out, Rd.of HO_408001.out, Rd.of HO_409001.out, HB.out⟩)
            clear BK403 BK404 BK407 BK408 HB HO_408001 HO_409001 HR0_1 HC0_1 HK1 A6
            try clear NB403_404 NB404_403 NB403_407 NB407_403 NB404_407 NB407_404 NB403_408 NB408_403 NB404_408 NB408_404 NB407_408 NB408_407
            try clear GW403 GW404 GW407 GW408
            try clear GE403 GE404 GE407 GE408
            try clear hnb11 hnc11 hnb18 hnc18 hnb19 hnc19 hnb20 hnc20 hnb22 hnc22 hnb23 hnc23
            obtain ⟨⟨hn1, hn2⟩, hln, hsv, hst, hzl, hxl⟩ := HN.out
            clear HN
            have h2 := H2.out
            have h3 := H3.out
            have h4 := H4.out
            obtain ⟨v, hv⟩ : ∃ v, a4 % a0_0 = v := ⟨_, rfl⟩
            rw [hv] at HRO HUP HV
            have hve : Int.tmod (wrap64 a4) a0_0 = v := by rw [wrap_ok a4 (by omega) (by omega), Int.tmod_eq_emod_of_nonneg h4.1, hv]
            obtain ⟨hv0, hv1⟩ := HV.out
            clear HV H4 hv
            have c29 : ¬ a0_0 = 0 := by omega
            have c29b0 : (a0_0 == 0) = false := beq_eq_false_iff_ne.mpr c29
            have c29b1 : (a0_0 != 0) = true := bne_iff_ne.mpr c29
            have y0 : wr.cell? ⟨gb403, 0, none⟩ = some (.int .i64 a0_0) := (blk_cell HQ.out.y 0).trans rfl
            have y1 : wr.cell? ⟨gb403, 1, none⟩ = some (.slice A0_1 l0_1.length c0_1) := (blk_cell HQ.out.y 1).trans rfl
            have s0 : wr.cell? ⟨gb404, 0, none⟩ = some (.int .i64 a1_0) := (blk_cell HQ.out.s 0).trans rfl
            have s1 : wr.cell? ⟨gb404, 1, none⟩ = some (.int .i64 a1_1) := (blk_cell HQ.out.s 1).trans rfl
            have HK := Lib.hid (arrivals_calls a0_0 A0_1 c0_1 l0_1 a1_0 a1_1 wr HQ.out.C)
            rw [HOP.out] at HK
            go_upto_region 13 with (go_at_call 22; refine (HK.out).mono ?_; rintro e W1 ⟨va, rfl, ho, hb⟩; obtain ⟨Aa, ca, hv_⟩ := Kd.R_slice ho; subst hv_; have HA := Lib.hid (Rd.of ho); have HB := Lib.hid hb; clear ho hb)
            clear HK
            clear y0 y1 s0 s1
            replace HQ := Lib.hid (HQ.out.below HB.out)
            clear HB
            have y0 : W1.cell? ⟨gb403, 0, none⟩ = some (.int .i64 a0_0) := (blk_cell HQ.out.y 0).trans rfl
            have y1 : W1.cell? ⟨gb403, 1, none⟩ = some (.slice A0_1 l0_1.length c0_1) := (blk_cell HQ.out.y 1).trans rfl
            have s0 : W1.cell? ⟨gb404, 0, none⟩ = some (.int .i64 a1_0) := (blk_cell HQ.out.s 0).trans rfl
            have s1 : W1.cell? ⟨gb404, 1, none⟩ = some (.int .i64 a1_1) := (blk_cell HQ.out.s 1).trans rfl
            have HK := Lib.hid (carried_calls a0_0 A0_1 c0_1 l0_1 a1_0 a1_1 W1 HQ.out.C)
            rw [HOP.out] at HK
            go_upto_region 14 with (go_at_call 24; refine (HK.out).mono ?_; rintro e W2 ⟨va, rfl, ho, hb⟩; obtain ⟨Ac, cc, hv_⟩ := Kd.R_slice ho; subst hv_; have HC := Lib.hid (Rd.of ho); have HB := Lib.hid hb; clear ho hb)
            clear HK
            clear y0 y1 s0 s1
            replace HQ := Lib.hid (HQ.out.below HB.out)
            replace HA := Lib.hid (HA.out.below HB.out)
            clear HB
            have y0 : W2.cell? ⟨gb403, 0, none⟩ = some (.int .i64 a0_0) := (blk_cell HQ.out.y 0).trans rfl
            have y1 : W2.cell? ⟨gb403, 1, none⟩ = some (.slice A0_1 l0_1.length c0_1) := (blk_cell HQ.out.y 1).trans rfl
            have s0 : W2.cell? ⟨gb404, 0, none⟩ = some (.int .i64 a1_0) := (blk_cell HQ.out.s 0).trans rfl
            have s1 : W2.cell? ⟨gb404, 1, none⟩ = some (.int .i64 a1_1) := (blk_cell HQ.out.s 1).trans rfl
            have HK := Lib.hid (sure_calls a0_0 A0_1 c0_1 l0_1 a1_0 a1_1 W2 HQ.out.C)
            rw [HOP.out] at HK
            go_upto_region 15 with (go_at_call 26; refine (HK.out).mono ?_; rintro e W3 ⟨va, rfl, ho, hb⟩; obtain ⟨Au, cu, hv_⟩ := Kd.R_slice ho; subst hv_; have HU := Lib.hid (Rd.of ho); have HB := Lib.hid hb; clear ho hb)
            clear HK
            clear y0 y1 s0 s1
            replace HQ := Lib.hid (HQ.out.below HB.out)
            replace HA := Lib.hid (HA.out.below HB.out)
            replace HC := Lib.hid (HC.out.below HB.out)
            clear HB
            have y0 : W3.cell? ⟨gb403, 0, none⟩ = some (.int .i64 a0_0) := (blk_cell HQ.out.y 0).trans rfl
            have y1 : W3.cell? ⟨gb403, 1, none⟩ = some (.slice A0_1 l0_1.length c0_1) := (blk_cell HQ.out.y 1).trans rfl
            have s0 : W3.cell? ⟨gb404, 0, none⟩ = some (.int .i64 a1_0) := (blk_cell HQ.out.s 0).trans rfl
            have s1 : W3.cell? ⟨gb404, 1, none⟩ = some (.int .i64 a1_1) := (blk_cell HQ.out.s 1).trans rfl
            have HK := Lib.hid (passed_calls a0_0 A0_1 c0_1 l0_1 a1_0 a1_1 v _ _ W3 HQ.out.C (passO_calls a0_0 l0_1 a1_0 a1_1 v))
            go_upto_region 16 with (go_at_call 30; refine (HK.out).mono ?_; rintro e W4 ⟨va, rfl, ho, hb⟩; obtain ⟨Ap, cp, hv_⟩ := Kd.R_slice ho; subst hv_; have HP := Lib.hid (Rd.of ho); have HB := Lib.hid hb; clear ho hb)
            clear HK
            clear y0 y1 s0 s1
            replace HQ := Lib.hid (HQ.out.below HB.out)
            replace HA := Lib.hid (HA.out.below HB.out)
            replace HC := Lib.hid (HC.out.below HB.out)
            replace HU := Lib.hid (HU.out.below HB.out)
            clear HB
            have hal := arr_len HOP.out
            have FOP := Lib.hid HRO.out.op
            have hbl := arr_len HRO.out.op
            have F1 := HRO.out.arr
            have F2 := HRO.out.car
            have F3 := HRO.out.sure
            have F4 := HRO.out.slen
            have F5 := HRO.out.err
            have F6 := HRO.out.pas
            have F7 := HRO.out.plen
            have L1 := passO_len a0_0 l0_1 a1_0 a1_1 v
            have L2 := (sureR HOP.out).len
            have L3 := carL_len' a0_0 l0_1 a1_0 a1_1
            have G1 := fun x hx => ((sureR HOP.out).mem x |>.1 hx).1
            have G2 := passO_mem a0_0 l0_1 a1_0 a1_1 v
            have UP := fun h => (HUP.out h).arr
            have UP2 := fun h => (HUP.out h).car
            have UP3 := fun h => (HUP.out h).sure
            have UP4 := fun h => (HUP.out h).err
            have UP5 := fun h => (HUP.out h).pas
            have N0 := arr_nn HOP.out
            clear HRO HUP
            generalize arrL a0_0 l0_1 a1_0 a1_1 = al at *
            generalize carL a0_0 l0_1 a1_0 a1_1 = cl at *
            generalize sureL a0_0 l0_1 a1_0 a1_1 = ul at *
            generalize passO a0_0 l0_1 a1_0 a1_1 v = pl at *
            generalize trailE a0_0 l0_1 a1_0 a1_1 v = pe at *
            replace F1 := Lib.hid F1
            replace F3 := Lib.hid F3
            replace F6 := Lib.hid F6
            replace F2 := Lib.hid F2
            replace F5 := Lib.hid F5
            replace F4 := Lib.hid F4
            replace F7 := Lib.hid F7
            replace G1 := Lib.hid G1
            replace G2 := Lib.hid G2
            replace UP := Lib.hid UP
            replace UP2 := Lib.hid UP2
            replace UP3 := Lib.hid UP3
            replace UP4 := Lib.hid UP4
            replace UP5 := Lib.hid UP5
            replace N0 := Lib.hid N0
            have hal2 : ((al.length : Int) != a0_0) = false := by simp [hal]
            go_upto_region 18 with (fail)
            obtain ⟨Wd, ed⟩ : ∃ Wd, W4.drew = Wd := ⟨_, rfl⟩
            have HB := Lib.hid (show Below W4.heap.size W4 Wd from by rw [← ed]; exact below_drew (Below.refl _ _))
            replace HQ := Lib.hid (HQ.out.below HB.out)
            replace HA := Lib.hid (HA.out.below HB.out)
            replace HC := Lib.hid (HC.out.below HB.out)
            replace HU := Lib.hid (HU.out.below HB.out)
            replace HP := Lib.hid (HP.out.below HB.out)
            clear HB
            refine start_ (n := 12) (S := fun w' => w'.cell? ⟨gb404, 0, none⟩ = some (.int .i64 a1_0) ∧ w'.cell? ⟨gb404, 1, none⟩ = some (.int .i64 a1_1)) (ds := []) #[false, false, false, false, false, false, false, false, false, false, false, false] (by kernel_rfl) rfl rfl (by rw [ed]; exact ⟨(blk_cell HQ.out.s 0).trans rfl, (blk_cell HQ.out.s 1).trans rfl⟩) (fun hHeld => ?_); refine with_tabW forecourtlaw05_TaintTurned.tab18 forecourtlaw05_TaintTurned.bits18 (fun HT_ HW_ => ?_)
            rw [ed] at hHeld ⊢
            refine pure_ (i := 0) (N := some 155) (v := ?_) (a' := ?_) #[true, false, false, false, false, false, false, false, false, false, false, false] rfl rfl (any_of HT_.out (by kernel_rfl)) (fun _ _ _ h => h) (Or.inl ⟨by rfl, ?_⟩) ?_ ?_
            rotate_left
            · intro w'
              go_simp
              with_reducible rfl
            rotate_left
            · simp only [Act.put, List.setIfInBounds_toArray, List.set_cons_zero, List.set_cons_succ, i64_w, i32_w]
              rfl
            refine pure_ (i := 2) (N := some 157) (v := ?_) (a' := ?_) #[true, false, true, false, false, false, false, false, false, false, false, false] rfl rfl (any_of HT_.out (by kernel_rfl)) (fun _ _ _ h => h) (Or.inl ⟨by rfl, ?_⟩) ?_ ?_
            rotate_left
            · intro w'
              go_simp
              with_reducible rfl
            rotate_left
            · simp only [Act.put, List.setIfInBounds_toArray, List.set_cons_zero, List.set_cons_succ, i64_w, i32_w]
              rfl
            refine pure_ (i := 3) (N := some 158) (v := ?_) (a' := ?_) #[true, false, true, true, false, false, false, false, false, false, false, false] rfl rfl (any_of HT_.out (by kernel_rfl)) (fun _ _ _ h => h) (Or.inl ⟨by rfl, ?_⟩) ?_ ?_
            rotate_left
            · intro w'
              go_simp
              with_reducible rfl
            rotate_left
            · simp only [Act.put, List.setIfInBounds_toArray, List.set_cons_zero, List.set_cons_succ, i64_w, i32_w]
              rfl
            refine pure_ (i := 5) (N := some 160) (v := ?_) (a' := ?_) #[true, false, true, true, false, true, false, false, false, false, false, false] rfl rfl (any_of HT_.out (by kernel_rfl)) (fun _ _ _ h => h) (Or.inl ⟨by rfl, ?_⟩) ?_ ?_
            rotate_left
            · intro w'
              go_simp
              with_reducible rfl
            rotate_left
            · simp only [Act.put, List.setIfInBounds_toArray, List.set_cons_zero, List.set_cons_succ, i64_w, i32_w]
              rfl
            refine pure_ (i := 7) (N := some 162) (v := ?_) (a' := ?_) #[true, false, true, true, false, true, false, true, false, false, false, false] rfl rfl (any_of HT_.out (by kernel_rfl)) (fun _ _ _ h => h) (Or.inl ⟨by rfl, ?_⟩) ?_ ?_
            rotate_left
            · intro w'
              go_simp
              with_reducible rfl
            rotate_left
            · simp only [Act.put, List.setIfInBounds_toArray, List.set_cons_zero, List.set_cons_succ, i64_w, i32_w]
              rfl
            refine take_ (i := 1) (N := some 156) (v := ?_) (a' := ?_) #[true, true, true, true, false, true, false, true, false, false, false, false] rfl rfl (take_ofW HT_.out HW_.out (by kernel_rfl)) (fun _ _ _ h => h) (Or.inl ⟨by rfl, ?_⟩) hHeld ?_ ?_
            rotate_left
            · rintro w' ⟨s0, s1⟩
              go_simp
              with_reducible rfl
            rotate_left
            · simp only [Act.put, List.setIfInBounds_toArray, List.set_cons_zero, List.set_cons_succ, i64_w, i32_w]
              rfl
            refine pure_ (i := 4) (N := some 159) (v := ?_) (a' := ?_) #[true, true, true, true, true, true, false, true, false, false, false, false] rfl rfl (any_of HT_.out (by kernel_rfl)) (fun _ _ _ h => h) (Or.inl ⟨by rfl, ?_⟩) ?_ ?_
            rotate_left
            · intro w'
              go_simp
              with_reducible rfl
            rotate_left
            · simp only [Act.put, List.setIfInBounds_toArray, List.set_cons_zero, List.set_cons_succ, i64_w, i32_w]
              rfl
            refine pure_ (i := 6) (N := some 161) (v := ?_) (a' := ?_) #[true, true, true, true, true, true, true, true, false, false, false, false] rfl rfl (any_of HT_.out (by kernel_rfl)) (fun _ _ _ h => h) (Or.inl ⟨by rfl, ?_⟩) ?_ ?_
            rotate_left
            · intro w'
              go_simp
              with_reducible rfl
            rotate_left
            · simp only [Act.put, List.setIfInBounds_toArray, List.set_cons_zero, List.set_cons_succ, i64_w, i32_w]
              rfl
            refine take_ (i := 8) (N := some 163) (v := ?_) (a' := ?_) #[true, true, true, true, true, true, true, true, true, false, false, false] rfl rfl (take_ofW HT_.out HW_.out (by kernel_rfl)) (fun _ _ _ h => h) (Or.inl ⟨by rfl, ?_⟩) hHeld ?_ ?_
            rotate_left
            · rintro w' ⟨s0, s1⟩
              go_simp
              with_reducible rfl
            rotate_left
            · simp only [Act.put, List.setIfInBounds_toArray, List.set_cons_zero, List.set_cons_succ, i64_w, i32_w]
              rfl
            refine join_ (σ := Nat) 1 #[true, true, true, true, true, true, true, true, true, true, true, false] (fun s_ => [(164, .agg #[.int .i64 (Int.tmod (wrap64 (a1_0 + (wrap64 (a3)))) a0_0), .int .i64 a1_1]), (25, .pointer (some ⟨s_, 0, none⟩))]) (fun s_ w' => (w'.cell? ⟨gb404, 0, none⟩ = some (.int .i64 a1_0) ∧ w'.cell? ⟨gb404, 1, none⟩ = some (.int .i64 a1_1)) ∧ w'.heap[s_]? = some (.cells #[.int .i64 0, .int .i64 0] 26 (0, 0)) ∧ Wd.heap.size ≤ s_ ∧ Below Wd.heap.size Wd w') ?_ ?_
            rotate_left
            · intro hCont
              refine two_ (i := 9) (j := 10) (Ni := some 164) (Nj := some 25) #[true, true, true, true, true, true, true, true, true, true, false, false] #[true, true, true, true, true, true, true, true, true, false, true, false] rfl rfl rfl rfl (two_of HT_.out (by kernel_rfl)) (by decide) (by decide) (fun K hK => ?_) (fun K hK => ?_)
              · skip
                refine goes_ Try.func44 (by kernel_rfl) rfl #[.int .i64 (Int.tmod (wrap64 (a1_0 + (wrap64 (a3)))) a0_0), .int .i64 a1_1] (by rfl) rfl rfl (by (try simp only [List.map_toArray, List.map_cons, List.map_nil]); first | done | rfl | (simp only [List.length_drop, List.length_take]; rfl)) ?_
                with_reducible refine (forecourtlaw05_From.calls (Int.tmod (wrap64 (a1_0 + (wrap64 (a3)))) a0_0) a1_1 (Int.tmod (wrap64 (a1_0 + (wrap64 (a3)))) a0_0) a1_1 _ rfl).mono ?_
                rintro e w89 ⟨rfl, hb⟩
                refine ⟨_, rfl, ?_⟩
                refine hK.out _ _ ⟨(blk_cell (blk_below HQ.out.s hb) 0).trans rfl, (blk_cell (blk_below HQ.out.s hb) 1).trans rfl⟩ (fun hHeld => ?_)
                clear hK K
                refine norm_ (a' := ?_) ?_ ?_
                rotate_left
                · show Act.put _ (some 164) _ = _
                  simp only [Act.put, List.setIfInBounds_toArray, List.set_cons_zero, List.set_cons_succ, i64_w, i32_w]
                  rfl
                refine one_ (i := 10) (N := some 25) #[true, true, true, true, true, true, true, true, true, true, true, false] rfl rfl (one_of HT_.out (by kernel_rfl)) (by decide) (fun K hK => ?_)
                refine box_step ?hg (N := 25) ?hd (cs := #[.int .i64 0, .int .i64 0]) (t := 26) ?hr ?_; (case hd => rfl); (case hg => rfl); (case hr => first | (go_simp; done) | (go_simp; rfl))
                intro gb443 hg w90 hbox hb2
                refine hK.out _ _ ⟨(blk_cell (blk_below (blk_below HQ.out.s hb) hb2) 0).trans rfl, (blk_cell (blk_below (blk_below HQ.out.s hb) hb2) 1).trans rfl⟩ (fun hHeld2 => ?_)
                clear hK K
                refine norm_ (a' := ?_) ?_ ?_
                rotate_left
                · show Act.put _ (some 25) _ = _
                  simp only [Act.put, List.setIfInBounds_toArray, List.set_cons_zero, List.set_cons_succ, i64_w, i32_w]
                  rfl
                exact norm_ (by simp only [putAll, Act.put, List.setIfInBounds_toArray, List.set_cons_zero, List.set_cons_succ]) (hCont gb443 _ ⟨hHeld2, hbox, (by rw [hg]; exact hb.size), below_then hb hb.size hb2⟩)
              · skip
                refine box_step ?hg (N := 25) ?hd (cs := #[.int .i64 0, .int .i64 0]) (t := 26) ?hr ?_; (case hd => rfl); (case hg => rfl); (case hr => first | (go_simp; done) | (go_simp; rfl))
                intro gb443 hg w89 hbox hb
                refine hK.out _ _ ⟨(blk_cell (blk_below HQ.out.s hb) 0).trans rfl, (blk_cell (blk_below HQ.out.s hb) 1).trans rfl⟩ (fun hHeld => ?_)
                clear hK K
                refine norm_ (a' := ?_) ?_ ?_
                rotate_left
                · show Act.put _ (some 25) _ = _
                  simp only [Act.put, List.setIfInBounds_toArray, List.set_cons_zero, List.set_cons_succ, i64_w, i32_w]
                  rfl
                refine one_ (i := 9) (N := some 164) #[true, true, true, true, true, true, true, true, true, true, true, false] rfl rfl (one_of HT_.out (by kernel_rfl)) (by decide) (fun K hK => ?_)
                refine goes_ Try.func44 (by kernel_rfl) rfl #[.int .i64 (Int.tmod (wrap64 (a1_0 + (wrap64 (a3)))) a0_0), .int .i64 a1_1] (by rfl) rfl rfl (by (try simp only [List.map_toArray, List.map_cons, List.map_nil]); first | done | rfl | (simp only [List.length_drop, List.length_take]; rfl)) ?_
                with_reducible refine (forecourtlaw05_From.calls (Int.tmod (wrap64 (a1_0 + (wrap64 (a3)))) a0_0) a1_1 (Int.tmod (wrap64 (a1_0 + (wrap64 (a3)))) a0_0) a1_1 _ rfl).mono ?_
                rintro e w90 ⟨rfl, hb2⟩
                refine ⟨_, rfl, ?_⟩
                refine hK.out _ _ ⟨(blk_cell (blk_below (blk_below HQ.out.s hb) hb2) 0).trans rfl, (blk_cell (blk_below (blk_below HQ.out.s hb) hb2) 1).trans rfl⟩ (fun hHeld2 => ?_)
                clear hK K
                refine norm_ (a' := ?_) ?_ ?_
                rotate_left
                · show Act.put _ (some 164) _ = _
                  simp only [Act.put, List.setIfInBounds_toArray, List.set_cons_zero, List.set_cons_succ, i64_w, i32_w]
                  rfl
                exact norm_ (by simp only [putAll, Act.put, List.setIfInBounds_toArray, List.set_cons_zero, List.set_cons_succ]) (hCont gb443 _ ⟨hHeld2, blk_below hbox hb2, (by rw [hg]; exact Nat.le_refl _), below_then hb hb.size hb2⟩)
            rintro gbt w91 ⟨hHeld, hbt, hgt, hbw⟩
            refine norm_ (a' := ?_) ?_ ?_
            rotate_left
            · simp only [putAll, Act.put, List.setIfInBounds_toArray, List.set_cons_zero, List.set_cons_succ]
              rfl
            refine one_ (i := 11) (N := none) #[true, true, true, true, true, true, true, true, true, true, true, true] rfl rfl (one_of HT_.out (by kernel_rfl)) (by decide) (fun K hK => ?_)
            have HQ5 := Lib.hid (HQ.out.below hbw)
            have hs92 : w91.cell? ⟨gbt, 0, none⟩ = some (.int .i64 0) := (blk_cell hbt 0).trans rfl
            have hfs92 := blk_frozen hbt 0
            have hs93 : w91.cell? ⟨gbt, 1, none⟩ = some (.int .i64 0) := (blk_cell hbt 1).trans rfl
            have hfs93 := blk_frozen hbt 1
            have hst2 := below_set (j := 1) (v := .int .i64 a1_1) (below_set (j := 0) (v := .int .i64 (Int.tmod (wrap64 (a1_0 + (wrap64 (a3)))) a0_0)) hbw hgt) hgt
            have HB := Lib.hid hst2
            refine skip_ (w1 := ?_) (by rfl) rfl ?_ ?_
            rotate_left
            · go_simp
              rfl
            refine hK.out _ _ ⟨(blk_cell (blk_below HQ.out.s hst2) 0).trans rfl, (blk_cell (blk_below HQ.out.s hst2) 1).trans rfl⟩ (fun hHeld => ?_)
            refine done_ (done_of HT_.out (by kernel_rfl)) ?_
            have HTB := Lib.hid (show ((w91.setCell ⟨gbt, 0, none⟩ (.int .i64 (Int.tmod (wrap64 (a1_0 + (wrap64 (a3)))) a0_0))).setCell ⟨gbt, 1, none⟩ (.int .i64 a1_1)).heap[gbt]? = some (.cells #[.int .i64 (Int.tmod (wrap64 (a1_0 + (wrap64 (a3)))) a0_0), .int .i64 a1_1] 26 (0, 0)) from blk_put (cs := #[.int .i64 (Int.tmod (wrap64 (a1_0 + (wrap64 (a3)))) a0_0), .int .i64 0]) (blk_put (cs := #[.int .i64 0, .int .i64 0]) hbt 0 _ rfl) 1 _ rfl)
            clear hs92 hs93 hfs92 hfs93 hbt hgt hbw hst2 hK K HQ5
            replace HQ := Lib.hid (HQ.out.below HB.out)
            replace HA := Lib.hid (HA.out.below HB.out)
            replace HC := Lib.hid (HC.out.below HB.out)
            replace HU := Lib.hid (HU.out.below HB.out)
            replace HP := Lib.hid (HP.out.below HB.out)
            clear HB
            generalize (w91.setCell ⟨gbt, 0, none⟩ (.int .i64 (Int.tmod (wrap64 (a1_0 + (wrap64 (a3)))) a0_0))).setCell ⟨gbt, 1, none⟩ (.int .i64 a1_1) = W5 at *
            have htv : (Int.tmod (wrap64 (a1_0 + (wrap64 (a3)))) a0_0) = (a1_0 + a3) % a0_0 := by rw [wrap_ok a3 (by omega) (by omega), wrap_ok _ (by omega) (by omega), Int.tmod_eq_emod_of_nonneg (by omega)]
            rw [htv] at HTB
            clear htv hHeld HT_ HW_
            generalize (a1_0 + a3) % a0_0 = tv at *
            have z0 : W5.cell? ⟨gb408, 0, none⟩ = some (.int .i64 a0_0) := (blk_cell HQ.out.z 0).trans rfl
            have z1 : W5.cell? ⟨gb408, 1, none⟩ = some (.slice Az zl.length cz) := (blk_cell HQ.out.z 1).trans rfl
            have t0 : W5.cell? ⟨gbt, 0, none⟩ = some (.int .i64 tv) := (blk_cell HTB.out 0).trans rfl
            have t1 : W5.cell? ⟨gbt, 1, none⟩ = some (.int .i64 a1_1) := (blk_cell HTB.out 1).trans rfl
            have HK := Lib.hid (arrivals_calls a0_0 Az cz zl tv a1_1 W5 HQ.out.Z.C)
            rw [FOP.out] at HK
            go_upto_region 20 with (go_at_call 22; refine (HK.out).mono ?_; rintro e W6 ⟨va, rfl, ho, hb⟩; obtain ⟨Ab, cb, hv_⟩ := Kd.R_slice ho; subst hv_; have HA2 := Lib.hid (Rd.of ho); have HB := Lib.hid hb; clear ho hb)
            clear HK
            clear z0 z1 t0 t1
            replace HQ := Lib.hid (HQ.out.below HB.out)
            replace HTB := Lib.hid (blk_below HTB.out HB.out)
            replace HA := Lib.hid (HA.out.below HB.out)
            replace HC := Lib.hid (HC.out.below HB.out)
            replace HU := Lib.hid (HU.out.below HB.out)
            replace HP := Lib.hid (HP.out.below HB.out)
            clear HB
            have z0 : W6.cell? ⟨gb408, 0, none⟩ = some (.int .i64 a0_0) := (blk_cell HQ.out.z 0).trans rfl
            have z1 : W6.cell? ⟨gb408, 1, none⟩ = some (.slice Az zl.length cz) := (blk_cell HQ.out.z 1).trans rfl
            have t0 : W6.cell? ⟨gbt, 0, none⟩ = some (.int .i64 tv) := (blk_cell HTB.out 0).trans rfl
            have t1 : W6.cell? ⟨gbt, 1, none⟩ = some (.int .i64 a1_1) := (blk_cell HTB.out 1).trans rfl
            have HK := Lib.hid (carried_calls a0_0 Az cz zl tv a1_1 W6 HQ.out.Z.C)
            rw [FOP.out, F2.out] at HK
            go_upto_region 21 with (go_at_call 24; refine (HK.out).mono ?_; rintro e W7 ⟨va, rfl, ho, hb⟩; obtain ⟨Ad, cd, hv_⟩ := Kd.R_slice ho; subst hv_; have HC2 := Lib.hid (Rd.of ho); have HB := Lib.hid hb; clear ho hb)
            clear HK
            clear z0 z1 t0 t1
            replace HQ := Lib.hid (HQ.out.below HB.out)
            replace HTB := Lib.hid (blk_below HTB.out HB.out)
            replace HA := Lib.hid (HA.out.below HB.out)
            replace HC := Lib.hid (HC.out.below HB.out)
            replace HU := Lib.hid (HU.out.below HB.out)
            replace HP := Lib.hid (HP.out.below HB.out)
            replace HA2 := Lib.hid (HA2.out.below HB.out)
            clear HB
            have z0 : W7.cell? ⟨gb408, 0, none⟩ = some (.int .i64 a0_0) := (blk_cell HQ.out.z 0).trans rfl
            have z1 : W7.cell? ⟨gb408, 1, none⟩ = some (.slice Az zl.length cz) := (blk_cell HQ.out.z 1).trans rfl
            have t0 : W7.cell? ⟨gbt, 0, none⟩ = some (.int .i64 tv) := (blk_cell HTB.out 0).trans rfl
            have t1 : W7.cell? ⟨gbt, 1, none⟩ = some (.int .i64 a1_1) := (blk_cell HTB.out 1).trans rfl
            have HK := Lib.hid (sure_calls a0_0 Az cz zl tv a1_1 W7 HQ.out.Z.C)
            rw [FOP.out] at HK
            go_upto_region 22 with (go_at_call 26; refine (HK.out).mono ?_; rintro e W8 ⟨va, rfl, ho, hb⟩; obtain ⟨Aw, cw, hv_⟩ := Kd.R_slice ho; subst hv_; have HU2 := Lib.hid (Rd.of ho); have HB := Lib.hid hb; clear ho hb)
            clear HK
            clear z0 z1 t0 t1
            replace HQ := Lib.hid (HQ.out.below HB.out)
            replace HTB := Lib.hid (blk_below HTB.out HB.out)
            replace HA := Lib.hid (HA.out.below HB.out)
            replace HC := Lib.hid (HC.out.below HB.out)
            replace HU := Lib.hid (HU.out.below HB.out)
            replace HP := Lib.hid (HP.out.below HB.out)
            replace HA2 := Lib.hid (HA2.out.below HB.out)
            replace HC2 := Lib.hid (HC2.out.below HB.out)
            clear HB
            have hvt : (Int.tmod (wrap64 (v + (wrap64 (a3)))) a0_0) = (v + a3) % a0_0 := by rw [wrap_ok a3 (by omega) (by omega), wrap_ok _ (by omega) (by omega), Int.tmod_eq_emod_of_nonneg (by omega)]
            obtain ⟨Wd2, ed⟩ : ∃ Wd, W8.drew = Wd := ⟨_, rfl⟩
            have HB := Lib.hid (show Below W8.heap.size W8 Wd2 from by rw [← ed]; exact below_drew (Below.refl _ _))
            replace HQ := Lib.hid (HQ.out.below HB.out)
            replace HTB := Lib.hid (blk_below HTB.out HB.out)
            replace HA := Lib.hid (HA.out.below HB.out)
            replace HC := Lib.hid (HC.out.below HB.out)
            replace HU := Lib.hid (HU.out.below HB.out)
            replace HP := Lib.hid (HP.out.below HB.out)
            replace HA2 := Lib.hid (HA2.out.below HB.out)
            replace HC2 := Lib.hid (HC2.out.below HB.out)
            replace HU2 := Lib.hid (HU2.out.below HB.out)
            clear HB
            have HK := Lib.hid (passed_calls a0_0 Az cz zl tv a1_1 ((v + a3) % a0_0) _ _ Wd2 HQ.out.Z.C (passO_calls a0_0 zl tv a1_1 ((v + a3) % a0_0)))
            rw [F5.out] at HK
            have L4 := passO_len a0_0 zl tv a1_1 ((v + a3) % a0_0)
            have L5 := (sureR FOP.out).len
            generalize passO a0_0 zl tv a1_1 ((v + a3) % a0_0) = ql at *
            generalize sureL a0_0 zl tv a1_1 = wl at *
            generalize arrL a0_0 zl tv a1_1 = bl at *
            clear F2 F5
            refine start_ (n := 14) (S := fun w' => w'.cell? ⟨gb408, 0, none⟩ = some (.int .i64 a0_0) ∧ w'.cell? ⟨gb408, 1, none⟩ = some (.slice Az zl.length cz) ∧ w'.cell? ⟨gbt, 0, none⟩ = some (.int .i64 tv) ∧ w'.cell? ⟨gbt, 1, none⟩ = some (.int .i64 a1_1)) (ds := []) #[false, false, false, false, false, false, false, false, false, false, false, false, false, false] (by kernel_rfl) rfl rfl (by rw [ed]; exact ⟨(blk_cell HQ.out.z 0).trans rfl, (blk_cell HQ.out.z 1).trans rfl, (blk_cell HTB.out 0).trans rfl, (blk_cell HTB.out 1).trans rfl⟩) (fun hHeld => ?_); refine with_tabW forecourtlaw05_TaintTurned.tab22 forecourtlaw05_TaintTurned.bits22 (fun HT_ HW_ => ?_)
            rw [ed] at hHeld ⊢
            refine pure_ (i := 2) (N := some 186) (v := ?_) (a' := ?_) #[false, false, true, false, false, false, false, false, false, false, false, false, false, false] rfl rfl (any_of HT_.out (by kernel_rfl)) (fun _ _ _ h => h) (Or.inl ⟨by rfl, ?_⟩) ?_ ?_
            rotate_left
            · intro w'
              go_simp
              with_reducible rfl
            rotate_left
            · simp only [Act.put, List.setIfInBounds_toArray, List.set_cons_zero, List.set_cons_succ, i64_w, i32_w]
              rfl
            refine pure_ (i := 3) (N := some 187) (v := ?_) (a' := ?_) #[false, false, true, true, false, false, false, false, false, false, false, false, false, false] rfl rfl (any_of HT_.out (by kernel_rfl)) (fun _ _ _ h => h) (Or.inl ⟨by rfl, ?_⟩) ?_ ?_
            rotate_left
            · intro w'
              go_simp
              with_reducible rfl
            rotate_left
            · simp only [Act.put, List.setIfInBounds_toArray, List.set_cons_zero, List.set_cons_succ, i64_w, i32_w]
              rfl
            refine pure_ (i := 4) (N := some 188) (v := ?_) (a' := ?_) #[false, false, true, true, true, false, false, false, false, false, false, false, false, false] rfl rfl (any_of HT_.out (by kernel_rfl)) (fun _ _ _ h => h) (Or.inl ⟨by rfl, ?_⟩) ?_ ?_
            rotate_left
            · intro w'
              go_simp
              with_reducible rfl
            rotate_left
            · simp only [Act.put, List.setIfInBounds_toArray, List.set_cons_zero, List.set_cons_succ, i64_w, i32_w]
              rfl
            refine pure_ (i := 5) (N := some 189) (v := ?_) (a' := ?_) #[false, false, true, true, true, true, false, false, false, false, false, false, false, false] rfl rfl (any_of HT_.out (by kernel_rfl)) (fun _ _ _ h => h) (Or.inl ⟨by rfl, ?_⟩) ?_ ?_
            rotate_left
            · intro w'
              go_simp
              with_reducible rfl
            rotate_left
            · simp only [Act.put, List.setIfInBounds_toArray, List.set_cons_zero, List.set_cons_succ, i64_w, i32_w]
              rfl
            refine pure_ (i := 6) (N := some 190) (v := ?_) (a' := ?_) #[false, false, true, true, true, true, true, false, false, false, false, false, false, false] rfl rfl (any_of HT_.out (by kernel_rfl)) (fun _ _ _ h => h) (Or.inl ⟨by rfl, ?_⟩) ?_ ?_
            rotate_left
            · intro w'
              go_simp
              with_reducible rfl
            rotate_left
            · simp only [Act.put, List.setIfInBounds_toArray, List.set_cons_zero, List.set_cons_succ, i64_w, i32_w]
              rfl
            refine pure_ (i := 7) (N := some 191) (v := ?_) (a' := ?_) #[false, false, true, true, true, true, true, true, false, false, false, false, false, false] rfl rfl (any_of HT_.out (by kernel_rfl)) (fun _ _ _ h => h) (Or.inl ⟨by rfl, ?_⟩) ?_ ?_
            rotate_left
            · intro w'
              go_simp
              with_reducible rfl
            rotate_left
            · simp only [Act.put, List.setIfInBounds_toArray, List.set_cons_zero, List.set_cons_succ, i64_w, i32_w]
              rfl
            refine take_ (i := 0) (N := some 184) (v := ?_) (a' := ?_) #[true, false, true, true, true, true, true, true, false, false, false, false, false, false] rfl rfl (take_ofW HT_.out HW_.out (by kernel_rfl)) (fun _ _ _ h => h) (Or.inl ⟨by rfl, ?_⟩) hHeld ?_ ?_
            rotate_left
            · rintro w' ⟨s0, s1, s2, s3⟩
              go_simp
              with_reducible rfl
            rotate_left
            · simp only [Act.put, List.setIfInBounds_toArray, List.set_cons_zero, List.set_cons_succ, i64_w, i32_w]
              rfl
            refine take_ (i := 1) (N := some 185) (v := ?_) (a' := ?_) #[true, true, true, true, true, true, true, true, false, false, false, false, false, false] rfl rfl (take_ofW HT_.out HW_.out (by kernel_rfl)) (fun _ _ _ h => h) (Or.inl ⟨by rfl, ?_⟩) hHeld ?_ ?_
            rotate_left
            · rintro w' ⟨s0, s1, s2, s3⟩
              go_simp
              with_reducible rfl
            rotate_left
            · simp only [Act.put, List.setIfInBounds_toArray, List.set_cons_zero, List.set_cons_succ, i64_w, i32_w]
              rfl
            refine one_ (i := 8) (N := some 192) #[true, true, true, true, true, true, true, true, true, false, false, false, false, false] rfl rfl (one_of HT_.out (by kernel_rfl)) (by decide) (fun K hK => ?_)
            refine goes_ Try.func30 (by kernel_rfl) rfl #[.agg #[.int .i64 a0_0, .slice Az zl.length cz], .agg #[.int .i64 tv, .int .i64 a1_1], .int .i64 ((v + a3) % a0_0)] (by rfl) rfl rfl (by (try simp only [List.map_toArray, List.map_cons, List.map_nil]); first | done | rfl | (simp only [List.length_drop, List.length_take]; rfl)) ?_
            refine (HK.out).mono ?_
            rintro e W9 ⟨va, rfl, ho, hb⟩
            refine ⟨_, rfl, ?_⟩
            obtain ⟨Aq, cq, hv_⟩ := Kd.R_slice ho
            subst hv_
            have HP2 := Lib.hid (Rd.of ho)
            refine hK.out _ _ ⟨(blk_cell (blk_below HQ.out.z hb) 0).trans rfl, (blk_cell (blk_below HQ.out.z hb) 1).trans rfl, (blk_cell (blk_below HTB.out hb) 0).trans rfl, (blk_cell (blk_below HTB.out hb) 1).trans rfl⟩ (fun hHeld => ?_)
            clear hK K
            refine norm_ (a' := ?_) ?_ ?_
            rotate_left
            · show Act.put _ (some 192) _ = _
              simp only [Act.put, List.setIfInBounds_toArray, List.set_cons_zero, List.set_cons_succ, i64_w, i32_w]
              rfl
            refine pure_ (i := 9) (N := some 183) (v := ?_) (a' := ?_) #[true, true, true, true, true, true, true, true, true, true, false, false, false, false] rfl rfl (any_of HT_.out (by kernel_rfl)) (fun _ _ _ h => h) (Or.inl ⟨by rfl, ?_⟩) ?_ ?_
            rotate_left
            · intro w'
              go_simp
              with_reducible rfl
            rotate_left
            · simp only [Act.put, List.setIfInBounds_toArray, List.set_cons_zero, List.set_cons_succ, i64_w, i32_w]
              rfl
            refine pure_ (i := 10) (N := some 193) (v := ?_) (a' := ?_) #[true, true, true, true, true, true, true, true, true, true, true, false, false, false] rfl rfl (any_of HT_.out (by kernel_rfl)) (fun _ _ _ h => h) (Or.inl ⟨by rfl, ?_⟩) ?_ ?_
            rotate_left
            · intro w'
              go_simp
              with_reducible rfl
            rotate_left
            · simp only [Act.put, List.setIfInBounds_toArray, List.set_cons_zero, List.set_cons_succ, i64_w, i32_w]
              rfl
            refine pure_ (i := 11) (N := some 194) (v := ?_) (a' := ?_) #[true, true, true, true, true, true, true, true, true, true, true, true, false, false] rfl rfl (any_of HT_.out (by kernel_rfl)) (fun _ _ _ h => h) (Or.inl ⟨by rfl, ?_⟩) ?_ ?_
            rotate_left
            · intro w'
              go_simp
              with_reducible rfl
            rotate_left
            · simp only [Act.put, List.setIfInBounds_toArray, List.set_cons_zero, List.set_cons_succ, i64_w, i32_w]
              rfl
            refine pure_ (i := 12) (N := some 32) (v := ?_) (a' := ?_) #[true, true, true, true, true, true, true, true, true, true, true, true, true, false] rfl rfl (any_of HT_.out (by kernel_rfl)) (fun _ _ _ h => h) (Or.inl ⟨by rfl, ?_⟩) ?_ ?_
            rotate_left
            · intro w'
              go_simp
              with_reducible rfl
            rotate_left
            · simp only [Act.put, List.setIfInBounds_toArray, List.set_cons_zero, List.set_cons_succ, i64_w, i32_w]
              rfl
            refine pure_ (i := 13) (N := some 33) (v := ?_) (a' := ?_) #[true, true, true, true, true, true, true, true, true, true, true, true, true, true] rfl rfl (any_of HT_.out (by kernel_rfl)) (fun _ _ _ h => h) (Or.inl ⟨by rfl, ?_⟩) ?_ ?_
            rotate_left
            · intro w'
              go_simp
              with_reducible rfl
            rotate_left
            · simp only [Act.put, List.setIfInBounds_toArray, List.set_cons_zero, List.set_cons_succ, i64_w, i32_w]
              rfl
            refine done_ (done_of HT_.out (by kernel_rfl)) ?_
            have HB := Lib.hid hb
            clear hb ho HK hHeld HT_ HW_
            replace HQ := Lib.hid (HQ.out.below HB.out)
            replace HA := Lib.hid (HA.out.below HB.out)
            replace HC := Lib.hid (HC.out.below HB.out)
            replace HU := Lib.hid (HU.out.below HB.out)
            replace HP := Lib.hid (HP.out.below HB.out)
            replace HA2 := Lib.hid (HA2.out.below HB.out)
            replace HC2 := Lib.hid (HC2.out.below HB.out)
            replace HU2 := Lib.hid (HU2.out.below HB.out)
            clear HB
            clear HTB hvt
            have hpe : (pe != pe) = false := by simp
            have hbl2 : ((bl.length : Int) != a0_0) = false := by simp [hbl]
            have huw : ((ul.length : Int) != (wl.length : Int)) = false := by simp [F4.out]
            have huw2 : (ul.length != wl.length) = false := by simp [F4.out]
            have hpq : ((pl.length : Int) != (ql.length : Int)) = false := by simp [F7.out]
            have hpq2 : (pl.length != ql.length) = false := by simp [F7.out]
            have HIN := Lib.hid (show forecourtlaw05_ints.f 2000 cl cl = some true from by rw [ints_eqB cl cl (by omega) 2000 (by omega)]; simp)
            go_upto_region 25 with (go_at_call 29; go_loud (refine (forecourtlaw05_ints.calls 2000 Ac cc cl Ad cd cl true _ HC.out.C HC.out.hc HC2.out.C HC2.out.hc HIN.out).mono ?_; rintro e W10 ⟨rfl, hd⟩; have HB := Lib.hid (drawn_below hd); clear hd))
            clear HC2 hpe hbl2 huw huw2 hpq hpq2
            replace HQ := Lib.hid (HQ.out.below HB.out)
            replace HA := Lib.hid (HA.out.below HB.out)
            replace HC := Lib.hid (HC.out.below HB.out)
            replace HU := Lib.hid (HU.out.below HB.out)
            replace HP := Lib.hid (HP.out.below HB.out)
            replace HA2 := Lib.hid (HA2.out.below HB.out)
            replace HU2 := Lib.hid (HU2.out.below HB.out)
            replace HP2 := Lib.hid (HP2.out.below HB.out)
            clear HB
            have hulm := L2
            have HBW := Lib.hid (Below.refl W10.heap.size W10)
            go_wp2
            go_loopg [34] a0_0.toNat (fun kq v34 w' => ∃ (j : Nat), v34 = .int .i64 j ∧ Aside0 (j + kq = a0_0.toNat) ∧ Aside0 (Below W10.heap.size W10 w'))
            case atStart => exact ⟨0, rfl, ⟨by omega⟩, ⟨HBW.out⟩⟩
            case round =>
              clear HBW
              obtain ⟨j, rfl, HN, HBW⟩ := hrel
              cases gk with
              | succ k2 => as_aux_lemma =>
                have hlt : (j : Int) < a0_0 := by have := HN.out; omega
                have hl4 : decide ((j : Int) < a0_0) = true := decide_eq_true hlt
                have hi0 : 0 ≤ ((j : Int) + a3) % a0_0 := Int.emod_nonneg _ (by omega)
                have hi1 : ((j : Int) + a3) % a0_0 < a0_0 := Int.emod_lt_of_pos _ (by omega)
                have hxt : Int.tmod (wrap64 ((j : Int) + wrap64 a3)) a0_0 = ((j : Int) + a3) % a0_0 := by rw [wrap_ok a3 (by omega) (by omega), wrap_ok _ (by omega) (by omega), Int.tmod_eq_emod_of_nonneg (by omega)]
                have hF := F1.out (j : Int) (by omega) hlt
                obtain ⟨ix, hxe⟩ : ∃ ix, ((j : Int) + a3) % a0_0 = ix := ⟨_, rfl⟩
                rw [hxe] at hi0 hi1 hF hxt
                obtain ⟨ad1, e1, hx1⟩ := Kd.at_int (HA2.out.below HBW.out).C ix (by omega) (by omega)
                cases e1
                obtain ⟨ad2, e2, hx2⟩ := Kd.at_int (HA.out.below HBW.out).C (j : Int) (by omega) (by omega)
                cases e2
                rw [show gc bl ix = rd bl ix from rfl, show gc al (j : Int) = rd al (j : Int) from rfl] at hF
                rw [hF] at hx1
                rw [Int.toNat_natCast] at hx2
                clear hF
                generalize rd al (j : Int) = g1 at *
                have hd : (g1 != g1) = false := by simp
                have hb0 : (j : Int) < (al.length : Int) := by omega
                have hb1 : ix < (bl.length : Int) := by omega
                go_upto_region 28 with (fail)
                go_quiet (fail)
                have HB2 := Lib.hid (below_then HBW.out HBW.out.size (drawn_below (W' := wr.drewN nq) ⟨nq, rfl⟩))
                go_wp2
                go_roundg k2
                case rel => exact ⟨j + 1, by go_num, ⟨by have := HN.out; omega⟩, ⟨HB2.out⟩⟩
                case measure => omega
              | zero => as_aux_lemma =>
                have hj : (j : Int) = a0_0 := by have := HN.out; omega
                have hl4 : decide ((j : Int) < a0_0) = false := decide_eq_false (by omega)
                clear hj
                go_wp2
                go_loopg [35] ul.length (fun kq v35 w' => ∃ (j : Nat), v35 = .int .i64 j ∧ Aside0 (j + kq = ul.length) ∧ Aside0 (Below W10.heap.size W10 w'))
                case atStart => exact ⟨0, rfl, ⟨by omega⟩, ⟨HBW.out⟩⟩
                case round =>
                  clear HBW
                  obtain ⟨j, rfl, HN, HBW⟩ := hrel
                  cases gk with
                  | succ k3 => as_aux_lemma =>
                    have hlt : j < ul.length := by have := HN.out; omega
                    have hl4 : decide ((j : Int) < (ul.length : Int)) = true := decide_eq_true (by omega)
                    have hj5 : decide (j < ul.length) = true := decide_eq_true hlt
                    have hj6 : (j : Int) < (ul.length : Int) := by omega
                    obtain ⟨ad1, e1, hx1⟩ := Kd.at_int (HU.out.below HBW.out).C (j : Int) (by omega) (by omega)
                    cases e1
                    rw [Int.toNat_natCast, rd_nat ul j hlt] at hx1
                    have hu := G1.out ul[j] (List.getElem_mem hlt)
                    have hw := F3.out ul[j] (List.getElem_mem hlt)
                    generalize ul[j] = x at *
                    have HIN := Lib.hid (in_true (u := wl) (v := (x + a3) % a0_0) (by omega) hw)
                    have hxt : Int.tmod (wrap64 (x + wrap64 a3)) a0_0 = (x + a3) % a0_0 := by rw [wrap_ok a3 (by omega) (by omega), wrap_ok _ (by omega) (by omega), Int.tmod_eq_emod_of_nonneg (by omega)]
                    obtain ⟨ix, hxe⟩ : ∃ ix, (x + a3) % a0_0 = ix := ⟨_, rfl⟩
                    rw [hxe] at HIN hxt
                    obtain ⟨hu0, hu1⟩ := hu
                    clear hw
                    have HW2 := Lib.hid (HU2.out.below HBW.out)
                    go_wp2_with (go_at_call 45; refine (forecourtlaw05_in.calls 1100 Aw cw wl ix true _ HW2.out.C HW2.out.hc HIN.out).mono ?_; rintro e WI ⟨rfl, hd⟩; have HB2 := Lib.hid (drawn_below hd); clear hd)
                    go_roundg k3
                    case rel => exact ⟨j + 1, by go_num, ⟨by have := HN.out; omega⟩, ⟨below_then HBW.out HBW.out.size HB2.out⟩⟩
                    case measure => omega
                  | zero => as_aux_lemma =>
                    have hj : j = ul.length := by have := HN.out; omega
                    subst hj
                    have hl4 : decide ((ul.length : Int) < (ul.length : Int)) = false := decide_eq_false (by omega)
                    go_wp2
                    go_loopg [36] pl.length (fun kq v36 w' => ∃ (j : Nat), v36 = .int .i64 j ∧ Aside0 (j + kq = pl.length) ∧ Aside0 (Below W10.heap.size W10 w'))
                    case atStart => exact ⟨0, rfl, ⟨by omega⟩, ⟨HBW.out⟩⟩
                    case round =>
                      clear HBW
                      obtain ⟨j, rfl, HN, HBW⟩ := hrel
                      cases gk with
                      | succ k4 => as_aux_lemma =>
                        have hlt : j < pl.length := by have := HN.out; omega
                        have hl4 : decide ((j : Int) < (pl.length : Int)) = true := decide_eq_true (by omega)
                        have hj5 : decide (j < pl.length) = true := decide_eq_true hlt
                        have hj6 : (j : Int) < (pl.length : Int) := by omega
                        obtain ⟨ad1, e1, hx1⟩ := Kd.at_int (HP.out.below HBW.out).C (j : Int) (by omega) (by omega)
                        cases e1
                        rw [Int.toNat_natCast, rd_nat pl j hlt] at hx1
                        have hu := G2.out pl[j] (List.getElem_mem hlt)
                        have hw := F6.out pl[j] (List.getElem_mem hlt)
                        generalize pl[j] = x at *
                        have HIN := Lib.hid (in_true (u := ql) (v := (x + a3) % a0_0) (by omega) hw)
                        have hxt : Int.tmod (wrap64 (x + wrap64 a3)) a0_0 = (x + a3) % a0_0 := by rw [wrap_ok a3 (by omega) (by omega), wrap_ok _ (by omega) (by omega), Int.tmod_eq_emod_of_nonneg (by omega)]
                        obtain ⟨ix, hxe⟩ : ∃ ix, (x + a3) % a0_0 = ix := ⟨_, rfl⟩
                        rw [hxe] at HIN hxt
                        obtain ⟨hu0, hu1⟩ := hu
                        clear hw
                        have HW2 := Lib.hid (HP2.out.below HBW.out)
                        go_wp2_with (go_at_call 45; refine (forecourtlaw05_in.calls 1100 Aq cq ql ix true _ HW2.out.C HW2.out.hc HIN.out).mono ?_; rintro e WI ⟨rfl, hd⟩; have HB2 := Lib.hid (drawn_below hd); clear hd)
                        go_roundg k4
                        case rel => exact ⟨j + 1, by go_num, ⟨by have := HN.out; omega⟩, ⟨below_then HBW.out HBW.out.size HB2.out⟩⟩
                        case measure => omega
                      | zero => as_aux_lemma =>
                        have hj : j = pl.length := by have := HN.out; omega
                        subst hj
                        have hl4 : decide ((pl.length : Int) < (pl.length : Int)) = false := decide_eq_false (by omega)
                        have HB := Lib.hid HBW.out
                        replace HQ := Lib.hid (HQ.out.below HB.out)
                        replace HA := Lib.hid (HA.out.below HB.out)
                        replace HC := Lib.hid (HC.out.below HB.out)
                        replace HU := Lib.hid (HU.out.below HB.out)
                        replace HP := Lib.hid (HP.out.below HB.out)
                        clear HB
                        clear HBW HN FOP HA2 HU2 HP2 HIN
                        have y0 : wr.cell? ⟨gb403, 0, none⟩ = some (.int .i64 a0_0) := (blk_cell HQ.out.y 0).trans rfl
                        have y1 : wr.cell? ⟨gb403, 1, none⟩ = some (.slice A0_1 l0_1.length c0_1) := (blk_cell HQ.out.y 1).trans rfl
                        have s0 : wr.cell? ⟨gb404, 0, none⟩ = some (.int .i64 a1_0) := (blk_cell HQ.out.s 0).trans rfl
                        have s1 : wr.cell? ⟨gb404, 1, none⟩ = some (.int .i64 a1_1) := (blk_cell HQ.out.s 1).trans rfl
                        have x0 : wr.cell? ⟨gb407, 0, none⟩ = some (.int .i64 a0_0) := (blk_cell HQ.out.x 0).trans rfl
                        have x1 : wr.cell? ⟨gb407, 1, none⟩ = some (.slice Ax xl.length cx) := (blk_cell HQ.out.x 1).trans rfl
                        have hsw : wrap64 (a1_1 + wrap64 a2) = a1_1 + a2 := by rw [wrap_ok a2 (by omega) (by omega), wrap_ok _ (by omega) (by omega)]
                        go_upto_region 41 with (go_at_call 44; refine (forecourtlaw05_From.calls a1_0 (a1_1 + a2) a1_0 (a1_1 + a2) _ rfl).mono ?_; rintro e W11 ⟨rfl, hb⟩; have HB := Lib.hid hb; clear hb)
                        clear hsw
                        clear y0 y1 s0 s1 x0 x1
                        replace HQ := Lib.hid (HQ.out.below HB.out)
                        replace HA := Lib.hid (HA.out.below HB.out)
                        replace HC := Lib.hid (HC.out.below HB.out)
                        replace HU := Lib.hid (HU.out.below HB.out)
                        replace HP := Lib.hid (HP.out.below HB.out)
                        clear HB
                        have HLB := Lib.hid (show (W11.alloc (.cells #[.int .i64 a1_0, .int .i64 (a1_1 + a2)] 26)).heap[W11.heap.size]? = some (.cells #[.int .i64 a1_0, .int .i64 (a1_1 + a2)] 26 (0, 0)) from blk_new W11 (.cells #[.int .i64 a1_0, .int .i64 (a1_1 + a2)] 26))
                        have HB := Lib.hid ((Below.refl W11.heap.size W11).alloc (Nat.le_refl _) (.cells #[.int .i64 a1_0, .int .i64 (a1_1 + a2)] 26))
                        replace HQ := Lib.hid (HQ.out.below HB.out)
                        replace HA := Lib.hid (HA.out.below HB.out)
                        replace HC := Lib.hid (HC.out.below HB.out)
                        replace HU := Lib.hid (HU.out.below HB.out)
                        replace HP := Lib.hid (HP.out.below HB.out)
                        clear HB
                        generalize W11.alloc (.cells #[.int .i64 a1_0, .int .i64 (a1_1 + a2)] 26) = W12 at *
                        generalize W11.heap.size = gbu at *
                        have UPZ := UP.out
                        have UPZ2 := UP2.out
                        have UPZ3 := UP3.out
                        have UPZ4 := UP4.out
                        have UPZ5 := UP5.out
                        clear UP UP2 UP3 UP4 UP5
                        have hfe := fine_eq a0_0 xl a1_0 (a1_1 + a2) 3000 (by omega)
                        obtain ⟨lt, elt⟩ : ∃ lt, a1_1 + a2 = lt := ⟨_, rfl⟩
                        rw [elt] at hfe UPZ UPZ2 UPZ3 UPZ4 UPZ5 HLB
                        clear elt
                        obtain ⟨F, hF⟩ : ∃ F, (decide ((xl.length : Int) ≤ 50) && decide (openE a0_0 xl a1_0 lt [] = 0)) = F := ⟨_, rfl⟩
                        rw [hF] at hfe
                        have x0 : W12.cell? ⟨gb407, 0, none⟩ = some (.int .i64 a0_0) := (blk_cell HQ.out.x 0).trans rfl
                        have x1 : W12.cell? ⟨gb407, 1, none⟩ = some (.slice Ax xl.length cx) := (blk_cell HQ.out.x 1).trans rfl
                        have u0 : W12.cell? ⟨gbu, 0, none⟩ = some (.int .i64 a1_0) := (blk_cell HLB.out 0).trans rfl
                        have u1 : W12.cell? ⟨gbu, 1, none⟩ = some (.int .i64 lt) := (blk_cell HLB.out 1).trans rfl
                        cases F with
                        | false => as_aux_lemma =>
                          clear hF UPZ UPZ2 UPZ3 UPZ4 UPZ5
                          have HFE := Lib.hid hfe
                          clear hfe
                          go_wp2_with (first
                            | (go_at_call 37; refine (forecourtlaw05_fine.calls 3000 a0_0 Ax cx xl a1_0 lt false _ HQ.out.X.C HQ.out.X.hc HFE.out).mono ?_; rintro e W13 ⟨rfl, hb⟩; have HB := Lib.hid hb; clear hb)
                            | (go_at_call 15; refine (works_calls _).mono ?_; rintro e W14 ⟨rfl, hb⟩; have HB2 := Lib.hid hb; clear hb))
                          go_ret
                          exact ⟨rfl, (HQ.out.below HB.out).g.trans (HB2.out.mono (Nat.le_trans HQ.out.g.size HB.out.size))⟩
                        | true => as_aux_lemma =>
                          have hop2 : openE a0_0 xl a1_0 lt [] = 0 := by
                            rw [Bool.and_eq_true] at hF
                            exact of_decide_eq_true hF.2
                          have UP := Lib.hid (UPZ hop2)
                          have UP2 := Lib.hid (UPZ2 hop2)
                          have UP3 := Lib.hid (UPZ3 hop2)
                          have UP4 := Lib.hid (UPZ4 hop2)
                          have UP5 := Lib.hid (UPZ5 hop2)
                          have FOP := Lib.hid hop2
                          have HFE := Lib.hid hfe
                          have hbl := arr_len hop2
                          clear hfe hF UPZ UPZ2 UPZ3 UPZ4 UPZ5 hop2
                          go_upto_region 43 with (go_at_call 37; refine (forecourtlaw05_fine.calls 3000 a0_0 Ax cx xl a1_0 lt true _ HQ.out.X.C HQ.out.X.hc HFE.out).mono ?_; rintro e W13 ⟨rfl, hb⟩; have HB := Lib.hid hb; clear hb)
                          clear HFE
                          clear x0 x1 u0 u1
                          replace HQ := Lib.hid (HQ.out.below HB.out)
                          replace HLB := Lib.hid (blk_below HLB.out HB.out)
                          replace HA := Lib.hid (HA.out.below HB.out)
                          replace HC := Lib.hid (HC.out.below HB.out)
                          replace HU := Lib.hid (HU.out.below HB.out)
                          replace HP := Lib.hid (HP.out.below HB.out)
                          clear HB
                          have x0 : W13.cell? ⟨gb407, 0, none⟩ = some (.int .i64 a0_0) := (blk_cell HQ.out.x 0).trans rfl
                          have x1 : W13.cell? ⟨gb407, 1, none⟩ = some (.slice Ax xl.length cx) := (blk_cell HQ.out.x 1).trans rfl
                          have u0 : W13.cell? ⟨gbu, 0, none⟩ = some (.int .i64 a1_0) := (blk_cell HLB.out 0).trans rfl
                          have u1 : W13.cell? ⟨gbu, 1, none⟩ = some (.int .i64 lt) := (blk_cell HLB.out 1).trans rfl
                          have HK := Lib.hid (arrivals_calls a0_0 Ax cx xl a1_0 lt W13 HQ.out.X.C)
                          rw [FOP.out] at HK
                          go_upto_region 44 with (go_at_call 22; refine (HK.out).mono ?_; rintro e W14 ⟨va, rfl, ho, hb⟩; obtain ⟨Ab, cb, hv_⟩ := Kd.R_slice ho; subst hv_; have HA2 := Lib.hid (Rd.of ho); have HB := Lib.hid hb; clear ho hb)
                          clear HK
                          clear x0 x1 u0 u1
                          replace HQ := Lib.hid (HQ.out.below HB.out)
                          replace HLB := Lib.hid (blk_below HLB.out HB.out)
                          replace HA := Lib.hid (HA.out.below HB.out)
                          replace HC := Lib.hid (HC.out.below HB.out)
                          replace HU := Lib.hid (HU.out.below HB.out)
                          replace HP := Lib.hid (HP.out.below HB.out)
                          clear HB
                          have x0 : W14.cell? ⟨gb407, 0, none⟩ = some (.int .i64 a0_0) := (blk_cell HQ.out.x 0).trans rfl
                          have x1 : W14.cell? ⟨gb407, 1, none⟩ = some (.slice Ax xl.length cx) := (blk_cell HQ.out.x 1).trans rfl
                          have u0 : W14.cell? ⟨gbu, 0, none⟩ = some (.int .i64 a1_0) := (blk_cell HLB.out 0).trans rfl
                          have u1 : W14.cell? ⟨gbu, 1, none⟩ = some (.int .i64 lt) := (blk_cell HLB.out 1).trans rfl
                          have HK := Lib.hid (carried_calls a0_0 Ax cx xl a1_0 lt W14 HQ.out.X.C)
                          rw [FOP.out, UP2.out] at HK
                          go_upto_region 45 with (go_at_call 24; refine (HK.out).mono ?_; rintro e W15 ⟨va, rfl, ho, hb⟩; obtain ⟨Ad, cd, hv_⟩ := Kd.R_slice ho; subst hv_; have HC2 := Lib.hid (Rd.of ho); have HB := Lib.hid hb; clear ho hb)
                          clear HK
                          clear x0 x1 u0 u1
                          replace HQ := Lib.hid (HQ.out.below HB.out)
                          replace HLB := Lib.hid (blk_below HLB.out HB.out)
                          replace HA := Lib.hid (HA.out.below HB.out)
                          replace HC := Lib.hid (HC.out.below HB.out)
                          replace HU := Lib.hid (HU.out.below HB.out)
                          replace HP := Lib.hid (HP.out.below HB.out)
                          replace HA2 := Lib.hid (HA2.out.below HB.out)
                          clear HB
                          have x0 : W15.cell? ⟨gb407, 0, none⟩ = some (.int .i64 a0_0) := (blk_cell HQ.out.x 0).trans rfl
                          have x1 : W15.cell? ⟨gb407, 1, none⟩ = some (.slice Ax xl.length cx) := (blk_cell HQ.out.x 1).trans rfl
                          have u0 : W15.cell? ⟨gbu, 0, none⟩ = some (.int .i64 a1_0) := (blk_cell HLB.out 0).trans rfl
                          have u1 : W15.cell? ⟨gbu, 1, none⟩ = some (.int .i64 lt) := (blk_cell HLB.out 1).trans rfl
                          have HK := Lib.hid (sure_calls a0_0 Ax cx xl a1_0 lt W15 HQ.out.X.C)
                          rw [FOP.out, UP3.out] at HK
                          go_upto_region 46 with (go_at_call 26; refine (HK.out).mono ?_; rintro e W16 ⟨va, rfl, ho, hb⟩; obtain ⟨Aw, cw, hv_⟩ := Kd.R_slice ho; subst hv_; have HU2 := Lib.hid (Rd.of ho); have HB := Lib.hid hb; clear ho hb)
                          clear HK
                          clear x0 x1 u0 u1
                          replace HQ := Lib.hid (HQ.out.below HB.out)
                          replace HLB := Lib.hid (blk_below HLB.out HB.out)
                          replace HA := Lib.hid (HA.out.below HB.out)
                          replace HC := Lib.hid (HC.out.below HB.out)
                          replace HU := Lib.hid (HU.out.below HB.out)
                          replace HP := Lib.hid (HP.out.below HB.out)
                          replace HA2 := Lib.hid (HA2.out.below HB.out)
                          replace HC2 := Lib.hid (HC2.out.below HB.out)
                          clear HB
                          have x0 : W16.cell? ⟨gb407, 0, none⟩ = some (.int .i64 a0_0) := (blk_cell HQ.out.x 0).trans rfl
                          have x1 : W16.cell? ⟨gb407, 1, none⟩ = some (.slice Ax xl.length cx) := (blk_cell HQ.out.x 1).trans rfl
                          have u0 : W16.cell? ⟨gbu, 0, none⟩ = some (.int .i64 a1_0) := (blk_cell HLB.out 0).trans rfl
                          have u1 : W16.cell? ⟨gbu, 1, none⟩ = some (.int .i64 lt) := (blk_cell HLB.out 1).trans rfl
                          have HK := Lib.hid (passed_calls a0_0 Ax cx xl a1_0 lt v _ _ W16 HQ.out.X.C (passO_calls a0_0 xl a1_0 lt v))
                          rw [UP4.out, UP5.out] at HK
                          go_upto_region 47 with (go_at_call 30; refine (HK.out).mono ?_; rintro e W17 ⟨va, rfl, ho, hb⟩; obtain ⟨Aq, cq, hv_⟩ := Kd.R_slice ho; subst hv_; have HP2 := Lib.hid (Rd.of ho); have HB := Lib.hid hb; clear ho hb)
                          clear HK
                          clear x0 x1 u0 u1
                          replace HQ := Lib.hid (HQ.out.below HB.out)
                          replace HLB := Lib.hid (blk_below HLB.out HB.out)
                          replace HA := Lib.hid (HA.out.below HB.out)
                          replace HC := Lib.hid (HC.out.below HB.out)
                          replace HU := Lib.hid (HU.out.below HB.out)
                          replace HP := Lib.hid (HP.out.below HB.out)
                          replace HA2 := Lib.hid (HA2.out.below HB.out)
                          replace HC2 := Lib.hid (HC2.out.below HB.out)
                          replace HU2 := Lib.hid (HU2.out.below HB.out)
                          clear HB
                          clear HLB UP2 UP3 UP4 UP5
                          generalize arrL a0_0 xl a1_0 lt = bl2 at *
                          have hpe : (pe != pe) = false := by simp
                          have hbl2 : ((bl2.length : Int) != a0_0) = false := by simp [hbl]
                          have HIN := Lib.hid (show forecourtlaw05_ints.f 2000 cl cl = some true from by rw [ints_eqB cl cl (by omega) 2000 (by omega)]; simp)
                          have HIN2 := Lib.hid (show forecourtlaw05_ints.f 2000 ul ul = some true from by rw [ints_eqB ul ul (by omega) 2000 (by omega)]; simp)
                          have HIN3 := Lib.hid (show forecourtlaw05_ints.f 2000 pl pl = some true from by rw [ints_eqB pl pl (by omega) 2000 (by omega)]; simp)
                          go_wp2_with fail
                          refine (forecourtlaw05_ints.calls 2000 Ac cc cl Ad cd cl true _ HC.out.C HC.out.hc HC2.out.C HC2.out.hc HIN.out).mono ?_
                          rintro e W18 ⟨rfl, hd⟩
                          have HB := Lib.hid (drawn_below hd)
                          clear hd HC2 HIN
                          replace HQ := Lib.hid (HQ.out.below HB.out)
                          replace HA := Lib.hid (HA.out.below HB.out)
                          replace HC := Lib.hid (HC.out.below HB.out)
                          replace HU := Lib.hid (HU.out.below HB.out)
                          replace HP := Lib.hid (HP.out.below HB.out)
                          replace HA2 := Lib.hid (HA2.out.below HB.out)
                          replace HU2 := Lib.hid (HU2.out.below HB.out)
                          replace HP2 := Lib.hid (HP2.out.below HB.out)
                          clear HB
                          go_wp2_with fail
                          refine (forecourtlaw05_ints.calls 2000 Au cu ul Aw cw ul true _ HU.out.C HU.out.hc HU2.out.C HU2.out.hc HIN2.out).mono ?_
                          rintro e W19 ⟨rfl, hd⟩
                          have HB := Lib.hid (drawn_below hd)
                          clear hd HU2 HIN2
                          replace HQ := Lib.hid (HQ.out.below HB.out)
                          replace HA := Lib.hid (HA.out.below HB.out)
                          replace HC := Lib.hid (HC.out.below HB.out)
                          replace HU := Lib.hid (HU.out.below HB.out)
                          replace HP := Lib.hid (HP.out.below HB.out)
                          replace HA2 := Lib.hid (HA2.out.below HB.out)
                          replace HP2 := Lib.hid (HP2.out.below HB.out)
                          clear HB
                          go_wp2_with fail
                          refine (forecourtlaw05_ints.calls 2000 Ap cp pl Aq cq pl true _ HP.out.C HP.out.hc HP2.out.C HP2.out.hc HIN3.out).mono ?_
                          rintro e W20 ⟨rfl, hd⟩
                          have HB := Lib.hid (drawn_below hd)
                          clear hd HP2 HIN3
                          replace HQ := Lib.hid (HQ.out.below HB.out)
                          replace HA := Lib.hid (HA.out.below HB.out)
                          replace HA2 := Lib.hid (HA2.out.below HB.out)
                          clear HB
                          go_upto_region 49 with (fail)
                          clear hpe hbl2
                          have HBW := Lib.hid (Below.refl W20.heap.size W20)
                          go_wp2
                          go_loopg [38] a0_0.toNat (fun kq v38 w' => ∃ (j : Nat), v38 = .int .i64 j ∧ Aside0 (j + kq = a0_0.toNat) ∧ Aside0 (Below W20.heap.size W20 w'))
                          case atStart => exact ⟨0, rfl, ⟨by omega⟩, ⟨HBW.out⟩⟩
                          case round =>
                            clear HBW
                            obtain ⟨j, rfl, HN, HBW⟩ := hrel
                            cases gk with
                            | succ k5 => as_aux_lemma =>
                              have hlt : (j : Int) < a0_0 := by have := HN.out; omega
                              have hl4 : decide ((j : Int) < a0_0) = true := decide_eq_true hlt
                              have hF := UP.out (j : Int) (by omega) hlt
                              have hN0 := N0.out (j : Int) (by omega) hlt
                              obtain ⟨ad1, e1, hx1⟩ := Kd.at_int (HA2.out.below HBW.out).C (j : Int) (by omega) (by omega)
                              cases e1
                              obtain ⟨ad2, e2, hx2⟩ := Kd.at_int (HA.out.below HBW.out).C (j : Int) (by omega) (by omega)
                              cases e2
                              rw [show gc bl2 (j : Int) = rd bl2 (j : Int) from rfl, show gc al (j : Int) = rd al (j : Int) from rfl] at hF
                              rw [show gc al (j : Int) = rd al (j : Int) from rfl] at hN0
                              rw [Int.toNat_natCast] at hx1 hx2
                              obtain ⟨hN1, hN2⟩ := hN0
                              have hb0 : (j : Int) < (al.length : Int) := by omega
                              have hb1 : (j : Int) < (bl2.length : Int) := by omega
                              generalize rd al (j : Int) = g1 at *
                              generalize rd bl2 (j : Int) = g2 at *
                              by_cases hg : g1 = 1048576
                              · rw [if_pos hg] at hF
                                subst hg hF
                                clear hN1 hN2
                                go_upto_region 52 with (fail)
                                go_quiet (fail)
                                have HB2 := Lib.hid (below_then HBW.out HBW.out.size (drawn_below (W' := wr.drewN nq) ⟨nq, rfl⟩))
                                go_wp2
                                go_roundg k5
                                case rel => exact ⟨j + 1, by go_num, ⟨by have := HN.out; omega⟩, ⟨HB2.out⟩⟩
                                case measure => omega
                              · rw [if_neg hg] at hF
                                subst hF
                                have hq1 : (g1 == 1048576) = false := beq_eq_false_iff_ne.mpr hg
                                have hq2 : (g1 != 1048576) = true := bne_iff_ne.mpr hg
                                have hq3 : ((g1 + a2) != (g1 + a2)) = false := by simp
                                clear hg
                                go_upto_region 52 with (fail)
                                go_quiet (fail)
                                have HB2 := Lib.hid (below_then HBW.out HBW.out.size (drawn_below (W' := wr.drewN nq) ⟨nq, rfl⟩))
                                go_wp2
                                go_roundg k5
                                case rel => exact ⟨j + 1, by go_num, ⟨by have := HN.out; omega⟩, ⟨HB2.out⟩⟩
                                case measure => omega
                            | zero => as_aux_lemma =>
                              have hj : (j : Int) = a0_0 := by have := HN.out; omega
                              have hl4 : decide ((j : Int) < a0_0) = false := decide_eq_false (by omega)
                              clear hj
                              go_wp2_with (go_at_call 15; refine (works_calls _).mono ?_; rintro e W21 ⟨rfl, hb⟩; have HB2 := Lib.hid hb; clear hb)
                              go_ret
                              exact ⟨rfl, (HQ.out.below HBW.out).g.trans (HB2.out.mono (Nat.le_trans HQ.out.g.size HBW.out.size))⟩
end Go.Proofs.Ytfhmepdbbhcncaa.P
