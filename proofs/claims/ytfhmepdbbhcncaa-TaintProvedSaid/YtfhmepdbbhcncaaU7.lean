import Derived.Test.YtfhmepdbbhcncaaUC
import Derived.Test.YtfhmepdbbhcncaaT18
import Derived.Test.YtfhmepdbbhcncaaT2
import Derived.Test.YtfhmepdbbhcncaaPf19
import Derived.Test.YtfhmepdbbhcncaaPf21
import Derived.Test.YtfhmepdbbhcncaaPf37
import Derived.Test.YtfhmepdbbhcncaaPf38
import Derived.Test.YtfhmepdbbhcncaaPf39
import Derived.Test.YtfhmepdbbhcncaaPf40
namespace Go.Proofs.Ytfhmepdbbhcncaa.P
open Go.RowKit Go.Shelf Go.Proofs.YtfhmepdbbhcncaaW.PrintWords Go.Proofs.YtfhmepdbbhcncaaW.PrintLast Go.Proofs.YtfhmepdbbhcncaaW.PrintMore Go.Proofs.YtfhmepdbbhcncaaM Go.Proofs.YtfhmepdbbhcncaaR
set_option linter.unusedVariables false
set_option linter.unusedSimpArgs false
set_option maxRecDepth 100000

/-- What is read all along. -/
structure PV (w W : World) (n sv st : Int) (A : Option Addr) (c : Nat) (l : List S58) (Ab : Option Addr) (cb : Nat) (bl : List Int) (Aa : Option Addr) (ca : Nat) (al : List Int) (Ac : Option Addr) (cc : Nat) (cl : List Int) (Au : Option Addr) (cu : Nat) (ul : List Int) : Prop where
  P : PY w W n sv st A c l
  b : Rd (Kd.int .u32) W Ab bl.length cb bl
  a : Rd (Kd.int .i64) W Aa al.length ca al
  cr : Rd (Kd.int .i64) W Ac cl.length cc cl
  u : Rd (Kd.int .i64) W Au ul.length cu ul
theorem PV.below {w W W' : World} {n sv st : Int} {A : Option Addr} {c : Nat} {l : List S58} {Ab : Option Addr} {cb : Nat} {bl : List Int} {Aa : Option Addr} {ca : Nat} {al : List Int} {Ac : Option Addr} {cc : Nat} {cl : List Int} {Au : Option Addr} {cu : Nat} {ul : List Int} (h : PV w W n sv st A c l Ab cb bl Aa ca al Ac cc cl Au cu ul) (hb : Below W.heap.size W W') : PV w W' n sv st A c l Ab cb bl Aa ca al Ac cc cl Au cu ul :=
  ⟨h.P.below hb, h.b.below hb, h.a.below hb, h.cr.below hb, h.u.below hb⟩
theorem RowC.of_make {W : World} {t : TypeId} {ys : List Int} {base : Nat} {v : Value} {n : Nat} (h : W.ownsRow base t 1 v n (ys.map (Value.int .i64))) (hn : ∃ b, v.ownBlock = some b) : ∃ b cap, v = .slice (some ⟨b, 0, none⟩) n cap ∧ base ≤ b ∧ ys.length = n ∧ RowC W b t cap ys := by
 by_cases h0 : 0 < n
 ·exact RowC.of_own h h0
 ·obtain ⟨h1, ⟨rfl, _⟩ | ⟨g, cap, cur, rfl, hg, hk, hle, hcm, hs, ht⟩⟩ := h
  ·obtain ⟨b, hb⟩ := hn
   simp [Value.ownBlock] at hb
  ·have hl : ys.length = n := by simpa using h1
   have hy : ys = [] := List.length_eq_zero_iff.1 (by omega)
   subst hy
   exact ⟨g, cap, rfl, hg, hl, ⟨⟨cur, hk, by omega, fun j hj => absurd hj (Nat.not_lt_zero _)⟩, by simp, hcm⟩⟩
/-- The moves that are marked. -/
structure MarkC (Wb W : World) (bK cap : Nat) (l : List S58) (cl : List Int) (j : Nat) (on : List Int) : Prop where
  len : on.length = l.length
  row : RowC W bK 3 cap on
  mark : ∀ q (h : q < cl.length), q < j → gc on cl[q] = 1
  inv : ∀ x : Int, 0 ≤ x → x.toNat < l.length → gc on x ≠ 0 → x ∈ cl
  g : Below Wb.heap.size Wb W
theorem MarkC.below {Wb W W' : World} {bK cap : Nat} {l : List S58} {cl : List Int} {j : Nat} {on : List Int} (h : MarkC Wb W bK cap l cl j on) (hb : Below W.heap.size W W') : MarkC Wb W' bK cap l cl j on :=
  ⟨h.len, h.row.below hb h.row.lt, h.mark, h.inv, below_then h.g h.g.size hb⟩
theorem MarkC.step {Wb W : World} {bK cap : Nat} {l : List S58} {cl : List Int} {j : Nat} {on : List Int} (h : MarkC Wb W bK cap l cl j on) (hb : Wb.heap.size ≤ bK) (hj : j < cl.length) (hf : ∀ q (h : q < cl.length), 0 ≤ cl[q] ∧ cl[q].toNat < l.length) :
    MarkC Wb (W.setCell ⟨bK, cl[j].toNat, none⟩ (.int .i64 1)) bK cap l cl (j + 1) (on.set cl[j].toNat 1) := by
 have hl := h.len
 have hfj := hf j hj
 have hset : ∀ x : Int, 0 ≤ x → x.toNat < l.length → gc (on.set cl[j].toNat 1) x = if x = cl[j] then 1 else gc on x := fun x h0 h1 => gc_set on _ x 1 hfj.1 h0 (by omega)
 refine ⟨by simp [hl], h.row.set _ (by omega) 1, fun q hq hqj => ?_, fun x h0 h1 hx => ?_, below_set h.g hb⟩
 ·have hfq := hf q hq
  rw [hset _ hfq.1 hfq.2]
  by_cases e : cl[q] = cl[j]
  ·rw [if_pos e]
  ·rw [if_neg e]
   refine h.mark q hq ?_
   have : q ≠ j := fun e2 => by subst e2; exact e rfl
   omega
 ·rw [hset x h0 h1] at hx
  by_cases e : x = cl[j]
  ·rw [e]; exact List.getElem_mem hj
  ·rw [if_neg e] at hx
   exact h.inv x h0 h1 hx
/-- The times that are made as early as can be. -/
structure EarR (Wb W : World) (bE cap : Nat) (al : List Int) (l : List S58) (es : List Int) : Prop where
  len : es.length = l.length
  row : RowC W bE 2 cap es
  ok : ∀ i : Nat, i < l.length → es.getD i 0 = (rd_T58 l (i : Int)).f2.f0 ∨ es.getD i 0 = earlyT al l i
  g : Below Wb.heap.size Wb W
theorem EarR.below {Wb W W' : World} {bE cap : Nat} {al : List Int} {l : List S58} {es : List Int} (h : EarR Wb W bE cap al l es) (hb : Below W.heap.size W W') : EarR Wb W' bE cap al l es :=
  ⟨h.len, h.row.below hb h.row.lt, h.ok, below_then h.g h.g.size hb⟩
theorem EarR.step {Wb W : World} {bE cap : Nat} {al : List Int} {l : List S58} {es : List Int} (h : EarR Wb W bE cap al l es) (hb : Wb.heap.size ≤ bE) {i : Nat} (hi : i < l.length) {x : Int} (hx : x = earlyT al l i) :
    EarR Wb (W.setCell ⟨bE, i, none⟩ (.int .i64 x)) bE cap al l (es.set i x) ∧ ((∀ j < i, es.getD j 0 = earlyT al l j) → ∀ j < i + 1, (es.set i x).getD j 0 = earlyT al l j) := by
 have hl := h.len
 have hset : ∀ j : Nat, j < l.length → (es.set i x).getD j 0 = if j = i then x else es.getD j 0 := fun j hj => by
  rw [List.getD_eq_getElem?_getD, List.getElem?_set]
  by_cases e : i = j
  ·subst e
   rw [if_pos rfl, if_pos (by omega), if_pos rfl]
   rfl
  ·rw [if_neg e, if_neg (fun h => e h.symm), List.getD_eq_getElem?_getD]
 refine ⟨⟨by simp [hl], h.row.set i (by omega) x, fun j hj => ?_, below_set h.g hb⟩, fun hall j hj => ?_⟩
 ·rw [hset j hj]
  by_cases e : j = i
  ·rw [if_pos e, e]; exact .inr hx
  ·rw [if_neg e]; exact h.ok j hj
 ·rw [hset j (by omega)]
  by_cases e : j = i
  ·rw [if_pos e, e]; exact hx
  ·rw [if_neg e]; exact hall j (by omega)
theorem carL_len' (n : Int) (l : List S58) (sv st : Int) : (carL n l sv st).length ≤ l.length := by
 unfold carL
 split
 ·exact carT_len _ _ _
 ·simp
set_option maxHeartbeats 4000000 in
set_option maxRecDepth 100000 in
theorem provedW (n : Int) (A : Option Addr) (c : Nat) (l : List S58) (sv st : Int) (Ab : Option Addr) (cb : Nat) (bl : List Int) (a3 : Int) (Ag : Option Addr) (cg : Nat) (gl : List Int) (w : World) (hr : Kd.C k58 w A l.length l) (hc : l.length ≤ c) (hb : Kd.C (Kd.int .u32) w Ab bl.length bl) (hcb : bl.length ≤ cb) (hg : Kd.C (Kd.int .i64) w Ag gl.length gl) (hcg : gl.length ≤ cg) (hbl : ∀ x ∈ bl, 0 ≤ x ∧ x ≤ 4294967295) (h3 : 0 ≤ a3 ∧ a3 ≤ 255) :
    Calls Try.prog 7 #[.agg #[.int .i64 n, .slice A l.length c], .agg #[.int .i64 sv, .int .i64 st], .slice Ab bl.length cb, .int .u8 a3, .slice Ag gl.length cg] w fun e w' => e = .returned (.bool true) ∧ Below w.heap.size w w' := by
 have HP := Lib.hid (PY.init w n sv st A c l hr hc)
 have HG := Lib.hid (show Rd (Kd.int .i64) ((w.alloc (.cells #[.int .i64 n, .slice A l.length c] 24)).alloc (.cells #[.int .i64 sv, .int .i64 st] 26)) Ag gl.length cg gl from ⟨rfl, hcg, Kd.C_below hg (boxes2 _ _ _)⟩)
 have HBL := Lib.hid (show Rd (Kd.int .u32) ((w.alloc (.cells #[.int .i64 n, .slice A l.length c] 24)).alloc (.cells #[.int .i64 sv, .int .i64 st] 26)) Ab bl.length cb bl from ⟨rfl, hcb, Kd.C_below hb (boxes2 _ _ _)⟩)
 have hfe := fine_eq n l sv st 2000 (by omega)
 obtain ⟨F, hF⟩ : ∃ F, (decide ((l.length : Int) ≤ 50) && decide (openE n l sv st [] = 0)) = F := ⟨_, rfl⟩
 rw [hF] at hfe
 have HFE := Lib.hid hfe
 clear hfe hr hg hb
 have hlen0 : (gl.length : Int) ≤ 9223372036854775807 := by have := HG.out.C.2.1; omega
 have hlen1 : (bl.length : Int) ≤ 9223372036854775807 := by have := HBL.out.C.2.1; omega
 go_enter Try.func7, Try.ntmps7
 go_upto_region 1 with (fail)
 generalize (w.alloc (.cells #[.int .i64 n, .slice A l.length c] 24)).alloc (.cells #[.int .i64 sv, .int .i64 st] 26) = W0 at *
 have y0 : W0.cell? ⟨w.heap.size, 0, none⟩ = some (.int .i64 n) := HP.out.y.cell 0
 have y1 : W0.cell? ⟨w.heap.size, 1, none⟩ = some (.slice A l.length c) := HP.out.y.cell 1
 have s0 : W0.cell? ⟨w.heap.size + 1, 0, none⟩ = some (.int .i64 sv) := HP.out.s.cell 0
 have s1 : W0.cell? ⟨w.heap.size + 1, 1, none⟩ = some (.int .i64 st) := HP.out.s.cell 1
 have HFI := Lib.hid (forecourtlaw05_fine.calls 2000 n A c l sv st F _ HP.out.C HP.out.hc HFE.out)
 cases F with
 | false =>
  go_wp2_with (first
   | (go_at_call 37; refine (HFI.out).mono ?_; rintro e W1 ⟨rfl, hb⟩; have HB := Lib.hid hb; clear hb)
   | (go_at_call 15; refine (works_calls _).mono ?_; rintro e W2 ⟨rfl, hb⟩; have HB2 := Lib.hid hb; clear hb))
  go_ret
  exact ⟨rfl, (HP.out.below HB.out).g.trans (HB2.out.mono (Nat.le_trans HP.out.g.size HB.out.size))⟩
 | true =>
  by_cases hb6 : 60 < (bl.length : Int)
  ·have hq : decide (60 < (bl.length : Int)) = true := decide_eq_true hb6
   go_wp2_with (first
    | (go_at_call 37; refine (HFI.out).mono ?_; rintro e W1 ⟨rfl, hb⟩; have HB := Lib.hid hb; clear hb)
    | (go_at_call 15; refine (works_calls _).mono ?_; rintro e W2 ⟨rfl, hb⟩; have HB2 := Lib.hid hb; clear hb))
   go_ret
   exact ⟨rfl, (HP.out.below HB.out).g.trans (HB2.out.mono (Nat.le_trans HP.out.g.size HB.out.size))⟩
  ·have hq6 : decide (60 < (bl.length : Int)) = false := decide_eq_false hb6
   by_cases hgl : 40 < (gl.length : Int)
   ·have hq : decide (40 < (gl.length : Int)) = true := decide_eq_true hgl
    go_wp2_with (first
     | (go_at_call 37; refine (HFI.out).mono ?_; rintro e W1 ⟨rfl, hb⟩; have HB := Lib.hid hb; clear hb)
     | (go_at_call 15; refine (works_calls _).mono ?_; rintro e W2 ⟨rfl, hb⟩; have HB2 := Lib.hid hb; clear hb))
    go_ret
    exact ⟨rfl, (HP.out.below HB.out).g.trans (HB2.out.mono (Nat.le_trans HP.out.g.size HB.out.size))⟩
   ·have hq : decide (40 < (gl.length : Int)) = false := decide_eq_false hgl
    have hop : openE n l sv st [] = 0 := by
     rw [Bool.and_eq_true] at hF
     exact of_decide_eq_true hF.2
    obtain ⟨hy, hsv, hst, _⟩ := open_parts hop
    have hn1 := hy.n1
    have hn2 := hy.n2
    have hln := hy.len
    have HY := Lib.hid hy
    have HOP := Lib.hid hop
    clear hy hop hF
    go_upto_region 3 with (go_at_call 37; refine (HFI.out).mono ?_; rintro e W1 ⟨rfl, hb⟩; have HB := Lib.hid hb; clear hb)
    replace HP := Lib.hid (HP.out.below HB.out)
    replace HG := Lib.hid (HG.out.below HB.out)
    replace HBL := Lib.hid (HBL.out.below HB.out)
    clear y0 y1 s0 s1 HB HFI
    have y0 : W1.cell? ⟨w.heap.size, 0, none⟩ = some (.int .i64 n) := HP.out.y.cell 0
    have y1 : W1.cell? ⟨w.heap.size, 1, none⟩ = some (.slice A l.length c) := HP.out.y.cell 1
    have s0 : W1.cell? ⟨w.heap.size + 1, 0, none⟩ = some (.int .i64 sv) := HP.out.s.cell 0
    have s1 : W1.cell? ⟨w.heap.size + 1, 1, none⟩ = some (.int .i64 st) := HP.out.s.cell 1
    have HCA := Lib.hid (arrivals_calls n A c l sv st W1 HP.out.C)
    rw [HOP.out] at HCA
    go_upto_region 4 with (go_at_call 22; refine (HCA.out).mono ?_; rintro e W2 ⟨va, rfl, ho, hb⟩; obtain ⟨Aa, ca, hv⟩ := Kd.R_slice ho; subst hv; have HA := Lib.hid (Rd.of ho); have HB := Lib.hid hb; clear ho hb)
    replace HP := Lib.hid (HP.out.below HB.out)
    replace HG := Lib.hid (HG.out.below HB.out)
    replace HBL := Lib.hid (HBL.out.below HB.out)
    clear y0 y1 s0 s1 HB HCA
    have y0 : W2.cell? ⟨w.heap.size, 0, none⟩ = some (.int .i64 n) := HP.out.y.cell 0
    have y1 : W2.cell? ⟨w.heap.size, 1, none⟩ = some (.slice A l.length c) := HP.out.y.cell 1
    have s0 : W2.cell? ⟨w.heap.size + 1, 0, none⟩ = some (.int .i64 sv) := HP.out.s.cell 0
    have s1 : W2.cell? ⟨w.heap.size + 1, 1, none⟩ = some (.int .i64 st) := HP.out.s.cell 1
    have HCC := Lib.hid (carried_calls n A c l sv st W2 HP.out.C)
    rw [HOP.out] at HCC
    go_upto_region 5 with (go_at_call 24; refine (HCC.out).mono ?_; rintro e W3 ⟨vc, rfl, ho, hb⟩; obtain ⟨Ac, cc, hv⟩ := Kd.R_slice ho; subst hv; have HC := Lib.hid (Rd.of ho); have HB := Lib.hid hb; clear ho hb)
    replace HP := Lib.hid (HP.out.below HB.out)
    replace HG := Lib.hid (HG.out.below HB.out)
    replace HBL := Lib.hid (HBL.out.below HB.out)
    replace HA := Lib.hid (HA.out.below HB.out)
    clear y0 y1 s0 s1 HB HCC
    have y0 : W3.cell? ⟨w.heap.size, 0, none⟩ = some (.int .i64 n) := HP.out.y.cell 0
    have y1 : W3.cell? ⟨w.heap.size, 1, none⟩ = some (.slice A l.length c) := HP.out.y.cell 1
    have s0 : W3.cell? ⟨w.heap.size + 1, 0, none⟩ = some (.int .i64 sv) := HP.out.s.cell 0
    have s1 : W3.cell? ⟨w.heap.size + 1, 1, none⟩ = some (.int .i64 st) := HP.out.s.cell 1
    have HCU := Lib.hid (sure_calls n A c l sv st W3 HP.out.C)
    rw [HOP.out] at HCU
    go_upto_region 6 with (go_at_call 26; refine (HCU.out).mono ?_; rintro e W4 ⟨vu, rfl, ho, hb⟩; obtain ⟨Au, cu, hv⟩ := Kd.R_slice ho; subst hv; have HU := Lib.hid (Rd.of ho); have HB := Lib.hid hb; clear ho hb)
    have HV := Lib.hid (show PV w W4 n sv st A c l Ab cb bl Aa ca (arrL n l sv st) Ac cc (carL n l sv st) Au cu (sureL n l sv st) from ⟨HP.out.below HB.out, HBL.out.below HB.out, HA.out.below HB.out, HC.out.below HB.out, HU.out⟩)
    replace HG := Lib.hid (HG.out.below HB.out)
    clear y0 y1 s0 s1 HB HCU HP HBL HA HC HU
    have HAL := Lib.hid (arr_len HOP.out)
    have HAG := Lib.hid (arr_gc HOP.out)
    have HAC := Lib.hid (arr_check HOP.out)
    have HCM := Lib.hid (car_mem HOP.out)
    have HCI := Lib.hid (car_inc HOP.out)
    have HCL := Lib.hid (carL_len' n l sv st)
    have HUR := Lib.hid (sureR HOP.out)
    have HGL := Lib.hid (fun hg => given_le HOP.out (g := gl) hg)
    have HEO := Lib.hid (fun k hk => early_ok HOP.out k hk)
    have HEC := Lib.hid (fun k hk hc => early_come HOP.out k hk hc)
    have HTR := Lib.hid (fun (v : Int) hv => trailE_of HOP.out (v := v) hv)
    generalize arrL n l sv st = al at *
    generalize carL n l sv st = cl at *
    generalize sureL n l sv st = ul at *
    have HK21 := Lib.hid (fun (W : World) (h : PV w W n sv st A c l Ab cb bl Aa ca al Ac cc cl Au cu ul) => forecourtref05_CheckArrivals.calls 3000 n A c l sv st Aa ca al 0 W h.P.C h.P.hc h.a.C h.a.hc (by rw [refCA n l sv st al (by omega) (by have := HAL.out; omega) 3000 (by omega), HAC.out]))
    have HK20 := Lib.hid (fun (W : World) (h : PV w W n sv st A c l Ab cb bl Aa ca al Ac cc cl Au cu ul) => checkArrivals_calls n A c l sv st Aa ca al W h.P.C h.a.C)
    rw [HAC.out] at HK20
    have HKC := Lib.hid (fun (W : World) (h : PV w W n sv st A c l Ab cb bl Aa ca al Ac cc cl Au cu ul) => forecourtref05_Rising.calls 2000 Ac cc cl (l.length : Int) true W h.cr.C h.cr.hc (rising_true cl (l.length : Int) (by have := HCL.out; omega) (fun x hx => ((HCM.out x).1 hx).1) (by omega) HCI.out 2000 (by omega)))
    have HKU := Lib.hid (fun (W : World) (h : PV w W n sv st A c l Ab cb bl Aa ca al Ac cc cl Au cu ul) => forecourtref05_Rising.calls 2000 Au cu ul n true W h.u.C h.u.hc (rising_true ul n (by have := HUR.out.len; omega) (fun x hx => ((HUR.out.mem x).1 hx).1) (by omega) HUR.out.inc 2000 (by omega)))
    have y0 : W4.cell? ⟨w.heap.size, 0, none⟩ = some (.int .i64 n) := HV.out.P.y.cell 0
    have y1 : W4.cell? ⟨w.heap.size, 1, none⟩ = some (.slice A l.length c) := HV.out.P.y.cell 1
    have s0 : W4.cell? ⟨w.heap.size + 1, 0, none⟩ = some (.int .i64 sv) := HV.out.P.s.cell 0
    have s1 : W4.cell? ⟨w.heap.size + 1, 1, none⟩ = some (.int .i64 st) := HV.out.P.s.cell 1
    have hal2 : ((al.length : Int) != n) = false := by have := HAL.out; simp [this]
    go_upto_region 8 with (first
     | (go_at_call 21; refine (HK21.out _ HV.out).mono ?_; rintro e W5 ⟨rfl, hb⟩; have HV5 := Lib.hid (HV.out.below hb); have HB5 := Lib.hid hb; clear hb HK21; have y0 : W5.cell? ⟨w.heap.size, 0, none⟩ = some (.int .i64 n) := HV5.out.P.y.cell 0; have y1 : W5.cell? ⟨w.heap.size, 1, none⟩ = some (.slice A l.length c) := HV5.out.P.y.cell 1; have s0 : W5.cell? ⟨w.heap.size + 1, 0, none⟩ = some (.int .i64 sv) := HV5.out.P.s.cell 0; have s1 : W5.cell? ⟨w.heap.size + 1, 1, none⟩ = some (.int .i64 st) := HV5.out.P.s.cell 1)
     | (go_at_call 20; refine (HK20.out _ HV5.out).mono ?_; rintro e W6 ⟨rfl, hb⟩; have HV6 := Lib.hid (HV5.out.below hb); have HB6 := Lib.hid hb; clear hb HK20; have y0 : W6.cell? ⟨w.heap.size, 0, none⟩ = some (.int .i64 n) := HV6.out.P.y.cell 0; have y1 : W6.cell? ⟨w.heap.size, 1, none⟩ = some (.slice A l.length c) := HV6.out.P.y.cell 1; have s0 : W6.cell? ⟨w.heap.size + 1, 0, none⟩ = some (.int .i64 sv) := HV6.out.P.s.cell 0; have s1 : W6.cell? ⟨w.heap.size + 1, 1, none⟩ = some (.int .i64 st) := HV6.out.P.s.cell 1)
     | (go_at_call 38; refine (HKC.out _ HV6.out).mono ?_; rintro e W7 ⟨rfl, hd⟩; have hb := drawn_below hd; have HV7 := Lib.hid (HV6.out.below hb); have HB7 := Lib.hid hb; clear hb hd HKC; have y0 : W7.cell? ⟨w.heap.size, 0, none⟩ = some (.int .i64 n) := HV7.out.P.y.cell 0; have y1 : W7.cell? ⟨w.heap.size, 1, none⟩ = some (.slice A l.length c) := HV7.out.P.y.cell 1; have s0 : W7.cell? ⟨w.heap.size + 1, 0, none⟩ = some (.int .i64 sv) := HV7.out.P.s.cell 0; have s1 : W7.cell? ⟨w.heap.size + 1, 1, none⟩ = some (.int .i64 st) := HV7.out.P.s.cell 1)
     | (go_at_call 38; refine (HKU.out _ HV7.out).mono ?_; rintro e W8 ⟨rfl, hd⟩; have hb := drawn_below hd; have HV8 := Lib.hid (HV7.out.below hb); have HB8 := Lib.hid hb; clear hb hd HKU; have y0 : W8.cell? ⟨w.heap.size, 0, none⟩ = some (.int .i64 n) := HV8.out.P.y.cell 0; have y1 : W8.cell? ⟨w.heap.size, 1, none⟩ = some (.slice A l.length c) := HV8.out.P.y.cell 1; have s0 : W8.cell? ⟨w.heap.size + 1, 0, none⟩ = some (.int .i64 sv) := HV8.out.P.s.cell 0; have s1 : W8.cell? ⟨w.heap.size + 1, 1, none⟩ = some (.int .i64 st) := HV8.out.P.s.cell 1))
    have HG8 := Lib.hid ((((HG.out.below HB5.out).below HB6.out).below HB7.out).below HB8.out)
    clear HV HV5 HV6 HV7 HB5 HB6 HB7 HB8 HG y0 y1 s0 s1
    obtain ⟨gz, hgz⟩ : ∃ gz, checkArrF n l sv st gl = gz := ⟨_, rfl⟩
    have HKG := Lib.hid (checkArrivals_calls n A c l sv st Ag cg gl W8 HV8.out.P.C HG8.out.C)
    rw [hgz] at HKG
    have HGZ := Lib.hid hgz
    clear hgz
    have y0 : W8.cell? ⟨w.heap.size, 0, none⟩ = some (.int .i64 n) := HV8.out.P.y.cell 0
    have y1 : W8.cell? ⟨w.heap.size, 1, none⟩ = some (.slice A l.length c) := HV8.out.P.y.cell 1
    have s0 : W8.cell? ⟨w.heap.size + 1, 0, none⟩ = some (.int .i64 sv) := HV8.out.P.s.cell 0
    have s1 : W8.cell? ⟨w.heap.size + 1, 1, none⟩ = some (.int .i64 st) := HV8.out.P.s.cell 1
    go_upto_if 109 with (go_at_call 20; refine (HKG.out).mono ?_; rintro e W9 ⟨rfl, hb⟩; have HV9 := Lib.hid (HV8.out.below hb); have HG9 := Lib.hid (HG8.out.below hb); clear hb)
    clear HV8 HG8 y0 y1 s0 s1 HKG
    go_cut [] (fun wc => Aside0 (PV w wc n sv st A c l Ab cb bl Aa ca al Ac cc cl Au cu ul))
    case first => as_aux_lemma =>
     by_cases hz : gz = 0
     ·have hqz : (gz == 0) = true := by simp [hz]
      have HLE := Lib.hid (HGL.out (HGZ.out.trans hz))
      clear hz
      have hll := HLE.out.1
      have hq2 : ((gl.length : Int) != (al.length : Int)) = false := by simp [hll]
      have hq3 : (gl.length != al.length) = false := by simp [hll]
      have hal3 := HAL.out
      clear hll
      go_wp2
      go_loopg [17] al.length (fun kq v17 w' => ∃ (j : Nat), v17 = .int .i64 j ∧ Aside0 (j + kq = al.length) ∧ Aside0 (PV w w' n sv st A c l Ab cb bl Aa ca al Ac cc cl Au cu ul) ∧ Aside0 (Rd (Kd.int .i64) w' Ag gl.length cg gl))
      case atStart => exact ⟨0, rfl, ⟨by omega⟩, ⟨HV9.out⟩, ⟨HG9.out⟩⟩
      case round =>
       obtain ⟨j, rfl, HN, HPV, HPG⟩ := hrel
       cases gk with
       | succ k1 => as_aux_lemma =>
        have hlt : j < al.length := by have := HN.out; omega
        have hlg : j < gl.length := by rw [HLE.out.1]; exact hlt
        have hl4 : decide ((j : Int) < (al.length : Int)) = true := decide_eq_true (by omega)
        have hj5 : decide (j < al.length) = true := decide_eq_true hlt
        have hj6 : (j : Int) < (al.length : Int) := by omega
        have hj7 : (j : Int) < (gl.length : Int) := by omega
        obtain ⟨ad1, e1, hx1⟩ := Kd.at_int HPV.out.a.C (j : Int) (by omega) (by omega)
        cases e1
        obtain ⟨ad2, e2, hx2⟩ := Kd.at_int HPG.out.C (j : Int) (by omega) (by omega)
        cases e2
        have hle := HLE.out.2 (j : Int) (by omega) (by omega)
        rw [show gc gl (j : Int) = rd gl (j : Int) from rfl, show gc al (j : Int) = rd al (j : Int) from rfl] at hle
        rw [Int.toNat_natCast] at hx1 hx2
        generalize rd gl (j : Int) = g1 at *
        generalize rd al (j : Int) = a1 at *
        have hd : decide (g1 > a1) = false := decide_eq_false (by omega)
        have hd2 : decide (a1 < g1) = false := decide_eq_false (by omega)
        clear hle
        go_upto_region 14 with (fail)
        go_quiet (fail)
        have HV10 := Lib.hid (HPV.out.below (drawn_below (W' := wr.drewN nq) ⟨nq, rfl⟩))
        have HG10 := Lib.hid (HPG.out.below (drawn_below (W' := wr.drewN nq) ⟨nq, rfl⟩))
        go_wp2
        go_roundg k1
        case rel => exact ⟨j + 1, by go_num, ⟨by have := HN.out; omega⟩, ⟨HV10.out⟩, ⟨HG10.out⟩⟩
        case measure => omega
       | zero =>
        have hj : j = al.length := by have := HN.out; omega
        subst hj
        have hl4 : decide ((al.length : Int) < (al.length : Int)) = false := decide_eq_false (by omega)
        go_wp2
        go_meet
        case rel => exact ⟨HPV.out⟩
     ·have hqz : (gz == 0) = false := by simp [hz]
      clear hz
      go_wp2
      go_meet
      case rel => exact ⟨HV9.out⟩
    case rest => as_aux_lemma =>
     clear HV9 HG9
     have HV := Lib.hid hcut.out
     clear hcut
     have hTS := timesOK HY.out bl
     have HTS := Lib.hid hTS
     have HTE := Lib.hid (times_eq HY.out bl hbl 60 (by omega))
     have HCE := Lib.hid (comes_eq HY.out hTS hst hsv 1800 (by omega))
     have HGE := Lib.hid (fun v h0 h1 => come_ge HY.out hTS hst hsv v h0 h1)
     have HSU := Lib.hid (fun v (h0 : 0 ≤ v) (h1 : v < n) (hv : gc (runC sureF (fun _ => true) n l sv st).1 v ≠ 1048576) => (by
      obtain ⟨rk, U⟩ := run_found (fun _ => true) HY.out (StepOK.sure HY.out) hst hsv
      have := come_sure HY.out hTS hst hsv U (rk v + 1) v (by omega) h0 h1
      rcases U.rng v h0 h1 with e | e
      ·intro e2
       omega
      ·exact absurd e hv : gc (comeF n l sv st (timesL l bl l.length)) v ≠ 1048576))
     have HCLN := Lib.hid (show (comeF n l sv st (timesL l bl l.length)).length = 20 from by
      have hyf := fixL_ok HY.out hTS
      obtain ⟨rk, C⟩ := run_found (fun _ => true) hyf (StepOK.soon hyf) hst hsv
      exact C.len)
     clear hTS
     generalize comeF n l sv st (timesL l bl l.length) = cf at *
     have HCLT := Lib.hid (show (cf.take n.toNat).length = n.toNat from by rw [List.length_take, HCLN.out]; omega)
     have HCGT := Lib.hid (fun v (h0 : 0 ≤ v) (h1 : v < n) => gc_take' cf n v h0 h1)
     generalize cf.take n.toNat = cm at *
     generalize timesL l bl l.length = ts at *
     have y0 : wc.cell? ⟨w.heap.size, 0, none⟩ = some (.int .i64 n) := HV.out.P.y.cell 0
     have y1 : wc.cell? ⟨w.heap.size, 1, none⟩ = some (.slice A l.length c) := HV.out.P.y.cell 1
     have s0 : wc.cell? ⟨w.heap.size + 1, 0, none⟩ = some (.int .i64 sv) := HV.out.P.s.cell 0
     have s1 : wc.cell? ⟨w.heap.size + 1, 1, none⟩ = some (.int .i64 st) := HV.out.P.s.cell 1
     go_upto_region 17 with (go_at_call 39; refine (forecourtlaw05_Times.calls 60 n A c l Ab cb bl ts _ HV.out.P.C HV.out.P.hc HV.out.b.C HV.out.b.hc HTE.out).mono ?_; rintro e W10 ⟨vt, rfl, ho, hb⟩; obtain ⟨At, ct, hv⟩ := Kd.R_slice ho; subst hv; have HT := Lib.hid (Rd.of ho); have HB := Lib.hid hb; clear ho hb)
     replace HV := Lib.hid (HV.out.below HB.out)
     clear y0 y1 s0 s1 HB
     have y0 : W10.cell? ⟨w.heap.size, 0, none⟩ = some (.int .i64 n) := HV.out.P.y.cell 0
     have y1 : W10.cell? ⟨w.heap.size, 1, none⟩ = some (.slice A l.length c) := HV.out.P.y.cell 1
     have s0 : W10.cell? ⟨w.heap.size + 1, 0, none⟩ = some (.int .i64 sv) := HV.out.P.s.cell 0
     have s1 : W10.cell? ⟨w.heap.size + 1, 1, none⟩ = some (.int .i64 st) := HV.out.P.s.cell 1
     go_upto_region 18 with (go_at_call 40; refine (forecourtlaw05_Comes.calls 1800 n A c l sv st At ct ts cm _ HV.out.P.C HV.out.P.hc HT.out.C HT.out.hc HCE.out).mono ?_; rintro e W11 ⟨vm, rfl, ho, hb⟩; obtain ⟨Am, cmc, hv⟩ := Kd.R_slice ho; subst hv; have HM := Lib.hid (Rd.of ho); have HB := Lib.hid hb; clear ho hb)
     replace HV := Lib.hid (HV.out.below HB.out)
     replace HT := Lib.hid (HT.out.below HB.out)
     clear y0 y1 s0 s1 HB
     have y1 : W11.cell? ⟨w.heap.size, 1, none⟩ = some (.slice A l.length c) := HV.out.P.y.cell 1
     go_upto_region 19 with ((with_reducible refine gate_dst (N := 140) rfl ?_); refine Kd.R_make (Kd.int .i64) (w0 := W11) W11.heap.size 3 rfl (N := 140) rfl 27 (.tmp 139) (.tmp 139) rfl (l.length : Int) rfl rfl Try.underlying27 (.int .i64 0) 8 info3 rfl (by decide) (by omega) 0 (ok := fun _ => True) (okp := fun _ => True) rfl (fun _ hk => hk) trivial (by omega) (by omega) (Below.refl _ _) (Nat.le_refl _) ?_; intro vk W12 ho12 hb12 hg12 hn12; have HO12 := Lib.hid ho12; have HB12 := Lib.hid hb12; have HN12 := Lib.hid hn12; clear ho12 hb12 hg12 hn12)
     have ho12 := HO12.out
     rw [Int.toNat_natCast] at ho12
     obtain ⟨bK, capK, rfl, hbK, _, hrow⟩ := RowC.of_make (Kd.own_of_R ho12) (by obtain ⟨b, h, _⟩ := HN12.out; exact ⟨b, h⟩)
     have HBK := Lib.hid hbK
     rw [List.length_replicate]
     have HK0 := Lib.hid (show ∃ on, MarkC W11 W12 bK capK l cl 0 on from ⟨_, by simp, hrow, fun q _ h => absurd h (Nat.not_lt_zero _), fun x h0 h1 hx => absurd (by
      unfold gc
      rw [List.getD_eq_getElem?_getD, List.getElem?_replicate, if_pos h1]
      rfl) hx, HB12.out⟩)
     clear ho12 hrow hbK HO12 HB12 HN12 y1
     have hclm := HCL.out
     have HFC := Lib.hid (show ∀ q (h : q < cl.length), 0 ≤ cl[q] ∧ cl[q].toNat < l.length from fun q hq => by
      have := ((HCM.out cl[q]).1 (List.getElem_mem hq)).1
      omega)
     go_wp2
     go_loopg [21] cl.length (fun kq v21 w' => ∃ (j : Nat), v21 = .int .i64 j ∧ Aside0 (j + kq = cl.length) ∧ Aside0 (∃ on, MarkC W11 w' bK capK l cl j on))
     case atStart => exact ⟨0, rfl, ⟨by omega⟩, ⟨HK0.out⟩⟩
     case round =>
      obtain ⟨j, rfl, HN, HMX⟩ := hrel
      obtain ⟨on, hM⟩ := HMX.out
      have HMC := Lib.hid hM
      clear HMX hM HK0
      cases gk with
      | succ k1 => as_aux_lemma =>
       have hlt : j < cl.length := by have := HN.out; omega
       have hl4 : decide ((j : Int) < (cl.length : Int)) = true := decide_eq_true (by omega)
       have hj5 : decide (j < cl.length) = true := decide_eq_true hlt
       have hj6 : (j : Int) < (cl.length : Int) := by omega
       have hfj := HFC.out j hlt
       have HMS := Lib.hid (HMC.out.step HBK.out hlt HFC.out)
       obtain ⟨ad1, e1, hx1⟩ := Kd.at_int (HV.out.below HMC.out.g).cr.C (j : Int) (by omega) (by omega)
       cases e1
       rw [Int.toNat_natCast, rd_nat cl j hlt] at hx1
       obtain ⟨x, hx⟩ : ∃ x, cl[j] = x := ⟨_, rfl⟩
       rw [hx] at hx1 hfj HMS
       clear hx
       obtain ⟨zO, cO⟩ : ∃ z, wr.cell? ⟨bK, x.toNat, none⟩ = some (.int .i64 z) := ⟨_, HMC.out.row.cell x.toNat (by rw [HMC.out.len]; exact hfj.2)⟩
       have fO := HMC.out.row.fz x.toNat
       have hx0 := hfj.1
       have hxl : x < (l.length : Int) := by omega
       clear hfj
       go_wp2
       go_roundg k1
       case rel => exact ⟨j + 1, by go_num, ⟨by have := HN.out; omega⟩, ⟨_, HMS.out⟩⟩
       case measure => omega
      | zero =>
       have hj : j = cl.length := by have := HN.out; omega
       subst hj
       have hl4 : decide ((cl.length : Int) < (cl.length : Int)) = false := decide_eq_false (by omega)
       have hcml := HCLT.out
       go_wp2
       go_loopg [22] cm.length (fun kq v22 w' => ∃ (j : Nat), v22 = .int .i64 j ∧ Aside0 (j + kq = cm.length) ∧ Aside0 (MarkC W11 w' bK capK l cl cl.length on))
       case atStart => exact ⟨0, rfl, ⟨by omega⟩, ⟨HMC.out⟩⟩
       case round =>
        obtain ⟨j, rfl, HN2, HM2⟩ := hrel
        cases gk with
        | succ k2 => as_aux_lemma =>
         have hlt : j < cm.length := by have := HN2.out; omega
         have hl5 : decide ((j : Int) < (cm.length : Int)) = true := decide_eq_true (by omega)
         have hj5 : decide (j < cm.length) = true := decide_eq_true hlt
         have hj6 : (j : Int) < (cm.length : Int) := by omega
         have hal3 := HAL.out
         have hj7 : (j : Int) < (al.length : Int) := by omega
         obtain ⟨ad1, e1, hx1⟩ := Kd.at_int (HM.out.below HM2.out.g).C (j : Int) (by omega) (by omega)
         cases e1
         obtain ⟨ad2, e2, hx2⟩ := Kd.at_int (HV.out.below HM2.out.g).a.C (j : Int) (by omega) (by omega)
         cases e2
         have hge := HGE.out (j : Int) (by omega) (by omega)
         rw [← HCGT.out (j : Int) (by omega) (by omega), ← HAG.out (j : Int) (by omega) (by omega)] at hge
         rw [show gc cm (j : Int) = rd cm (j : Int) from rfl, show gc al (j : Int) = rd al (j : Int) from rfl] at hge
         rw [Int.toNat_natCast] at hx1 hx2
         generalize rd cm (j : Int) = g1 at *
         generalize rd al (j : Int) = a1 at *
         have hd : decide (g1 < a1) = false := decide_eq_false (by omega)
         clear hge
         go_upto_region 26 with (fail)
         go_quiet (fail)
         have HM3 := Lib.hid (HM2.out.below (drawn_below (W' := wr.drewN nq) ⟨nq, rfl⟩))
         go_wp2
         go_roundg k2
         case rel => exact ⟨j + 1, by go_num, ⟨by have := HN2.out; omega⟩, ⟨HM3.out⟩⟩
         case measure => omega
        | zero =>
         have hj : j = cm.length := by have := HN2.out; omega
         subst hj
         have hl5 : decide ((cm.length : Int) < (cm.length : Int)) = false := decide_eq_false (by omega)
         have hulm := HUR.out.len
         go_wp2
         go_loopg [23] ul.length (fun kq v23 w' => ∃ (j : Nat), v23 = .int .i64 j ∧ Aside0 (j + kq = ul.length) ∧ Aside0 (MarkC W11 w' bK capK l cl cl.length on))
         case atStart => exact ⟨0, rfl, ⟨by omega⟩, ⟨HM2.out⟩⟩
         case round =>
          obtain ⟨j, rfl, HN3, HM3⟩ := hrel
          cases gk with
          | succ k3 => as_aux_lemma =>
           have hlt : j < ul.length := by have := HN3.out; omega
           have hl6 : decide ((j : Int) < (ul.length : Int)) = true := decide_eq_true (by omega)
           have hj5 : decide (j < ul.length) = true := decide_eq_true hlt
           have hj6 : (j : Int) < (ul.length : Int) := by omega
           obtain ⟨ad1, e1, hx1⟩ := Kd.at_int (HV.out.below HM3.out.g).u.C (j : Int) (by omega) (by omega)
           cases e1
           rw [Int.toNat_natCast, rd_nat ul j hlt] at hx1
           have hu := (HUR.out.mem ul[j]).1 (List.getElem_mem hlt)
           generalize ul[j] = x at *
           have hx0 := hu.1.1
           have hxc : x < (cm.length : Int) := by have := hu.1.2; omega
           obtain ⟨ad2, e2, hx2⟩ := Kd.at_int (HM.out.below HM3.out.g).C x (by omega) (by omega)
           cases e2
           have hne := HSU.out x hu.1.1 hu.1.2 hu.2
           rw [← HCGT.out x hu.1.1 hu.1.2, show gc cm x = rd cm x from rfl] at hne
           clear hu
           generalize rd cm x = g1 at *
           have hd : (g1 == 1048576) = false := by simp [hne]
           clear hne
           go_wp2
           go_roundg k3
           case rel => exact ⟨j + 1, by go_num, ⟨by have := HN3.out; omega⟩, ⟨HM3.out⟩⟩
           case measure => omega
          | zero =>
           have hj : j = ul.length := by have := HN3.out; omega
           subst hj
           have hl6 : decide ((ul.length : Int) < (ul.length : Int)) = false := decide_eq_false (by omega)
           have htsl := HTS.out.len
           go_wp2
           go_loopg [24] ts.length (fun kq v24 w' => ∃ (j : Nat), v24 = .int .i64 j ∧ Aside0 (j + kq = ts.length) ∧ Aside0 (MarkC W11 w' bK capK l cl cl.length on))
           case atStart => exact ⟨0, rfl, ⟨by omega⟩, ⟨HM3.out⟩⟩
           case round =>
            obtain ⟨j, rfl, HN4, HM4⟩ := hrel
            cases gk with
            | succ k4 => as_aux_lemma =>
             have hlt : j < ts.length := by have := HN4.out; omega
             have hltl : j < l.length := by omega
             have hl7 : decide ((j : Int) < (ts.length : Int)) = true := decide_eq_true (by omega)
             have hj5 : decide (j < ts.length) = true := decide_eq_true hlt
             have hj6 : (j : Int) < (ts.length : Int) := by omega
             have hj7 : (j : Int) < (l.length : Int) := by omega
             have hj8 : decide (j < l.length) = true := decide_eq_true hltl
             obtain ⟨ad1, e1, hx1⟩ := Kd.at_int (HT.out.below HM4.out.g).C (j : Int) (by omega) (by omega)
             cases e1
             rw [Int.toNat_natCast, rd_nat ts j hlt] at hx1
             obtain ⟨ad, eA, hm0, hm1, hm2, hm3⟩ := at_T58 (HV.out.below HM4.out.g).P.C (j : Int) (by omega) hj7
             cases eA
             rw [Int.toNat_natCast] at hm0
             have y1 : wr.cell? ⟨w.heap.size, 1, none⟩ = some (.slice (some ad) l.length c) := (HV.out.below HM4.out.g).P.y.cell 1
             have hmm := HY.out.mv _ (rdM (l := l) (show (0 : Int) ≤ (j : Int) by omega) hj7)
             have hrg := HTS.out.rng j hltl hlt
             rw [← rdT l j hltl] at hrg
             have hcj := HCM.out (j : Int)
             have hge := HGE.out (rd_T58 l (j : Int)).f0 hmm.1 hmm.2.1
             rw [← HCGT.out (rd_T58 l (j : Int)).f0 hmm.1 hmm.2.1, ← HAG.out (rd_T58 l (j : Int)).f0 hmm.1 hmm.2.1] at hge
             have hf0 := hmm.1
             have hf1 : (rd_T58 l (j : Int)).f0 < (cm.length : Int) := by have := hmm.2.1; omega
             obtain ⟨ad2, e2, hx2⟩ := Kd.at_int (HM.out.below HM4.out.g).C (rd_T58 l (j : Int)).f0 (by omega) (by omega)
             cases e2
             rw [show gc cm (rd_T58 l (j : Int)).f0 = rd cm (rd_T58 l (j : Int)).f0 from rfl] at hge
             have HONJ := Lib.hid (show rd cm (rd_T58 l (j : Int)).f0 ≤ ts[j] → wr.cell? ⟨bK, j, none⟩ = some (.int .i64 1) from fun hle => by
              have hin := hcj.2 ⟨⟨by omega, hj7⟩, by omega⟩
              obtain ⟨q, hq, hqe⟩ := List.getElem_of_mem hin
              have hmk := HM4.out.mark q hq hq
              rw [hqe] at hmk
              have hol : j < on.length := by rw [HM4.out.len]; exact hltl
              have := HM4.out.row.cell j hol
              rw [this]
              unfold gc at hmk
              rw [List.getD_eq_getElem?_getD, Int.toNat_natCast, List.getElem?_eq_getElem hol] at hmk
              rw [show on[j] = 1 from hmk])
             clear hm1 hm2 hm3 hmm hrg hcj hge
             generalize rd cm (rd_T58 l (j : Int)).f0 = g1 at *
             generalize (rd_T58 l (j : Int)).f0 = f0 at *
             generalize ts[j] = tj at *
             go_upto_region 36 with (fail)
             by_cases hge : g1 ≤ tj
             ·have hd : decide (tj ≥ g1) = true := decide_eq_true hge
              have hd2 : decide (g1 ≤ tj) = true := decide_eq_true hge
              have cO := HONJ.out hge
              clear hge
              go_quiet (fail)
              have HM5 := Lib.hid (HM4.out.below (drawn_below (W' := wr.drewN nq) ⟨nq, rfl⟩))
              go_wp2
              go_roundg k4
              case rel => exact ⟨j + 1, by go_num, ⟨by have := HN4.out; omega⟩, ⟨HM5.out⟩⟩
              case measure => omega
             ·have hd : decide (tj ≥ g1) = false := decide_eq_false hge
              have hd2 : decide (g1 ≤ tj) = false := decide_eq_false hge
              clear hge
              go_quiet (fail)
              have HM5 := Lib.hid (HM4.out.below (drawn_below (W' := wr.drewN nq) ⟨nq, rfl⟩))
              go_wp2
              go_roundg k4
              case rel => exact ⟨j + 1, by go_num, ⟨by have := HN4.out; omega⟩, ⟨HM5.out⟩⟩
              case measure => omega
            | zero =>
             have hj : j = ts.length := by have := HN4.out; omega
             subst hj
             have hl7 : decide ((ts.length : Int) < (ts.length : Int)) = false := decide_eq_false (by omega)
             have y1 : wr.cell? ⟨w.heap.size, 1, none⟩ = some (.slice A l.length c) := (HV.out.below HM4.out.g).P.y.cell 1
             by_cases hl0 : (l.length : Int) = 0
             ·have hq0 : ((l.length : Int) == 0) = true := beq_iff_eq.mpr hl0
              have hq1 : (l.length == 0) = true := beq_iff_eq.mpr (by omega)
              have hc0 : (cl.length : Int) = 0 := by omega
              have hq2 : ((cl.length : Int) == 0) = true := beq_iff_eq.mpr hc0
              have hq3 : (cl.length == 0) = true := beq_iff_eq.mpr (by omega)
              go_wp2_with (go_at_call 15; refine (works_calls _).mono ?_; rintro e W15 ⟨rfl, hb⟩; have HB15 := Lib.hid hb; clear hb)
              go_ret
              have hg := (HV.out.below HM4.out.g).P.g
              exact ⟨rfl, hg.trans (HB15.out.mono hg.size)⟩
             ·have hq0 : ((l.length : Int) == 0) = false := beq_eq_false_iff_ne.mpr hl0
              have hq1 : (l.length == 0) = false := beq_eq_false_iff_ne.mpr (by omega)
              go_upto_region 41 with (fail)
              have hk0 : 0 ≤ a3 % (l.length : Int) := Int.emod_nonneg _ hl0
              have hk1 : a3 % (l.length : Int) < (l.length : Int) := Int.emod_lt_of_pos _ (by omega)
              generalize a3 % (l.length : Int) = kk at *
              have hmm := HY.out.mv _ (rdM hk0 hk1)
              have HMM := Lib.hid hmm
              have hkl : kk.toNat < l.length := by omega
              have hrk : rd_T58 l kk = l[kk.toNat] := by
               have := rdT l kk.toNat hkl
               rw [show ((kk.toNat : Nat) : Int) = kk by omega] at this
               exact this
              have HRK := Lib.hid hrk
              obtain ⟨ad, eA, hm0, hm1, hm2, hm3⟩ := at_T58 (HV.out.below HM4.out.g).P.C kk hk0 hk1
              cases eA
              clear hmm hrk
              go_upto_region 42 with (fail)
              clear hm0 hm1 hm2 hm3 y1
              have HM5 := Lib.hid (HM4.out.below (below_alloc (Below.refl wr.heap.size wr) (.cells #[.int .i64 (rd_T58 l kk).f0, .int .i64 (rd_T58 l kk).f1, .int .i64 (rd_T58 l kk).f2.f0, .int .i64 (rd_T58 l kk).f2.f1] 58)))
              have HB5 := Lib.hid (Blk.new wr #[.int .i64 (rd_T58 l kk).f0, .int .i64 (rd_T58 l kk).f1, .int .i64 (rd_T58 l kk).f2.f0, .int .i64 (rd_T58 l kk).f2.f1] 58)
              have hbm := HM4.out.g.size
              generalize wr.alloc (.cells #[.int .i64 (rd_T58 l kk).f0, .int .i64 (rd_T58 l kk).f1, .int .i64 (rd_T58 l kk).f2.f0, .int .i64 (rd_T58 l kk).f2.f1] 58) = W13 at *
              generalize wr.heap.size = bM at *
              clear HM4
              have hf0 := HMM.out.1
              have hf1 := HMM.out.2.1
              obtain ⟨tt, htt, _, _, hto⟩ := trail_works n l sv st (rd_T58 l kk).f0
              have hte := HTR.out (rd_T58 l kk).f0 ⟨hf0, hf1⟩
              have HTT := Lib.hid htt
              have HTO := Lib.hid hto
              have HTE2 := Lib.hid hte
              clear htt hto hte
              generalize trailE n l sv st (rd_T58 l kk).f0 = te at *
              have y0 : W13.cell? ⟨w.heap.size, 0, none⟩ = some (.int .i64 n) := (HV.out.below HM5.out.g).P.y.cell 0
              have y1 : W13.cell? ⟨w.heap.size, 1, none⟩ = some (.slice (some ad) l.length c) := (HV.out.below HM5.out.g).P.y.cell 1
              have s0 : W13.cell? ⟨w.heap.size + 1, 0, none⟩ = some (.int .i64 sv) := (HV.out.below HM5.out.g).P.s.cell 0
              have s1 : W13.cell? ⟨w.heap.size + 1, 1, none⟩ = some (.int .i64 st) := (HV.out.below HM5.out.g).P.s.cell 1
              have m0 : W13.cell? ⟨bM, 0, none⟩ = some (.int .i64 (rd_T58 l kk).f0) := HB5.out.cell 0
              go_upto_region 43 with (go_at_call 32; refine (trail_calls n (some ad) c l sv st (rd_T58 l kk).f0 tt te _ (HV.out.below HM5.out.g).P.C HTT.out).mono ?_; rintro e W14 ⟨vt, rfl, ho, hb⟩; obtain ⟨Ar, cr, hv⟩ := Kd.R_slice ho; subst hv; have HTL := Lib.hid (Rd.of ho); have HB := Lib.hid hb; clear ho hb)
              have HM6 := Lib.hid (HM5.out.below HB.out)
              have HB6 := Lib.hid (HB5.out.below HB.out HB5.out.lt)
              clear y0 y1 s0 s1 m0 HM5 HB5 HB
              have hol : kk.toNat < on.length := by rw [HM6.out.len]; exact hkl
              have cK := HM6.out.row.cell kk.toNat hol
              obtain ⟨ok, hok⟩ : ∃ ok, on[kk.toNat] = ok := ⟨_, rfl⟩
              have HOK := Lib.hid (show gc on kk = ok from by
               unfold gc
               rw [List.getD_eq_getElem?_getD, List.getElem?_eq_getElem hol]
               exact hok)
              rw [hok] at cK
              clear hok hol
              by_cases hk2 : ok = 0
              ·have hq5 : (ok == 0) = true := by simp [hk2]
               have HNO := Lib.hid (show ¬ gc al (rd_T58 l kk).f0 ≤ (rd_T58 l kk).f2.f1 from fun hle => by
                have hin := (HCM.out kk).2 ⟨⟨hk0, hk1⟩, hle⟩
                obtain ⟨q, hq, hqe⟩ := List.getElem_of_mem hin
                have := HM6.out.mark q hq hq
                rw [hqe, HOK.out, hk2] at this
                omega)
               clear hk2
               go_upto_region 44 with (fail)
               have HW := Lib.hid (fun (d : Nat) (os : Array Obj) => works_calls (Go.«Sort».grow (redrawn W14 d) os))
               obtain ⟨adA, eA, hxA⟩ := Kd.at_int (HV.out.below HM6.out.g).a.C (rd_T58 l kk).f0 hf0 (by have := HAL.out; omega)
               cases eA
               have hfa : (rd_T58 l kk).f0 < (al.length : Int) := by have := HAL.out; omega
               have gm0 := cell_regrown (show W14.cell? ⟨bM, 0, none⟩ = some (.int .i64 (rd_T58 l kk).f0) from HB6.out.cell 0)
               have gm3 := cell_regrown (show W14.cell? ⟨bM, 3, none⟩ = some (.int .i64 (rd_T58 l kk).f2.f1) from HB6.out.cell 3)
               have gA := cell_regrown hxA
               have hte := HTE2.out
               have hno := HNO.out
               rw [show gc al (rd_T58 l kk).f0 = rd al (rd_T58 l kk).f0 from rfl] at hte hno
               have HWG := Lib.hid (HV.out.below HM6.out.g).P.g
               generalize rd al (rd_T58 l kk).f0 = aa at *
               generalize (rd_T58 l kk).f2.f1 = hh at *
               generalize (rd_T58 l kk).f0 = ff at *
               have hd : decide (aa > hh) = true := decide_eq_true (by omega)
               have hd2 : decide (hh < aa) = true := decide_eq_true (by omega)
               by_cases hnv : aa = 1048576
               ·rw [if_pos hnv] at hte
                clear hnv hno
                subst hte
                refine wp_region_quiet_below (by kernel_rfl) (by kernel_rfl) ?_
                repeat (go_big_quiet_step ((go_at_call 15; exact Calls.regrown_of (HW.out _ _))))
                refine wpQuiet_nil ?_
                intro _ hw'
                obtain ⟨⟨dq, osq⟩, hw''⟩ := hw'
                subst hw''
                clear gm0 gm3 gA
                go_wp2
                go_ret
                exact ⟨rfl, HWG.out.trans ((below_regrown W14 dq osq).mono HWG.out.size)⟩
               ·rw [if_neg hnv] at hte
                clear hnv hno
                subst hte
                refine wp_region_quiet_below (by kernel_rfl) (by kernel_rfl) ?_
                repeat (go_big_quiet_step ((go_at_call 15; exact Calls.regrown_of (HW.out _ _))))
                refine wpQuiet_nil ?_
                intro _ hw'
                obtain ⟨⟨dq, osq⟩, hw''⟩ := hw'
                subst hw''
                clear gm0 gm3 gA
                go_wp2
                go_ret
                exact ⟨rfl, HWG.out.trans ((below_regrown W14 dq osq).mono HWG.out.size)⟩
              ·have hq5 : (ok == 0) = false := by simp [hk2]
               have HYES := Lib.hid ((HCM.out kk).1 (HM6.out.inv kk hk0 hkl (by rw [HOK.out]; exact hk2))).2
               have hne : gc al (rd_T58 l kk).f0 ≠ 1048576 := by have := HYES.out; have := HMM.out; omega
               have hte := HTE2.out
               rw [if_neg hne] at hte
               subst hte
               have HCK := Lib.hid (show forecourtref05_CheckTrail.f 3000 n l sv st (rd_T58 l kk).f0 tt false = some 0 from by rw [refCT n l sv st (rd_T58 l kk).f0 tt false (by omega) 3000 (by omega), (HTO.out rfl).2])
               clear hk2 hne
               have HVV := Lib.hid (HV.out.below HM6.out.g)
               have y0 : W14.cell? ⟨w.heap.size, 0, none⟩ = some (.int .i64 n) := HVV.out.P.y.cell 0
               have y1 : W14.cell? ⟨w.heap.size, 1, none⟩ = some (.slice (some ad) l.length c) := HVV.out.P.y.cell 1
               have s0 : W14.cell? ⟨w.heap.size + 1, 0, none⟩ = some (.int .i64 sv) := HVV.out.P.s.cell 0
               have s1 : W14.cell? ⟨w.heap.size + 1, 1, none⟩ = some (.int .i64 st) := HVV.out.P.s.cell 1
               have m0 : W14.cell? ⟨bM, 0, none⟩ = some (.int .i64 (rd_T58 l kk).f0) := HB6.out.cell 0
               go_upto_region 47 with (go_at_call 19; refine (forecourtref05_CheckTrail.calls 3000 n (some ad) c l sv st (rd_T58 l kk).f0 Ar cr tt false 0 _ HVV.out.P.C HVV.out.P.hc HTL.out.C HTL.out.hc HCK.out).mono ?_; rintro e W15 ⟨rfl, hb⟩; have HB := Lib.hid hb; clear hb)
               have HV7 := Lib.hid (HVV.out.below HB.out)
               have HB7 := Lib.hid (HB6.out.below HB.out HB6.out.lt)
               clear HVV HM6 HB6 HB HTL HTT HTO HTE2 HCK y0 y1 s0 s1 m0 HM HT HV HMC HM2 HM3 cK
               have y0 : W15.cell? ⟨w.heap.size, 0, none⟩ = some (.int .i64 n) := HV7.out.P.y.cell 0
               have y1 : W15.cell? ⟨w.heap.size, 1, none⟩ = some (.slice (some ad) l.length c) := HV7.out.P.y.cell 1
               have HT0 := Lib.hid (forecourtlaw05_Times.calls 60 n (some ad) c l none 0 [] _ W15 HV7.out.P.C HV7.out.P.hc (show Kd.C (Kd.int .u32) W15 none 0 ([] : List Int) from ⟨rfl, by simp, fun h => absurd h (Nat.lt_irrefl 0)⟩) (Nat.le_refl 0) (times_eq HY.out [] (fun x hx => by cases hx) 60 (by omega)))
               go_upto_region 48 with (go_at_call 39; refine (HT0.out).mono ?_; rintro e W16 ⟨ve, rfl, ho, hb⟩; have HO := Lib.hid ho; have HB := Lib.hid hb; clear ho hb)
               obtain ⟨bE, capE, rfl, hbE, _, hrow⟩ := RowC.of_own (Kd.own_of_R HO.out) (by simp [timesL]; omega)
               have HBE := Lib.hid hbE
               have HE0 := Lib.hid (show EarR W15 W16 bE capE al l (timesL l [] l.length) from ⟨by simp [timesL], hrow, fun i hi => .inl (by
                have : (timesL l [] l.length).getD i 0 = timeAt l [] i := by simp [timesL, List.getD, hi]
                rw [this]
                unfold timeAt
                simp), HB.out⟩)
               have hel : (timesL l [] l.length).length = l.length := by simp [timesL]
               rw [hel]
               generalize timesL l [] l.length = es0 at *
               clear hrow hbE HO HB y0 y1 HT0 hel
               have hnN : ((n.toNat : Nat) : Int) = n := by omega
               go_wp2
               go_loopg [30, 31, 32] n.toNat (fun kq v30 v31 v32 w' => ∃ (r : Nat), v30 = .int .i64 r ∧ Aside0 (r + kq = n.toNat) ∧ Aside0 (∃ es, EarR W15 w' bE capE al l es ∧ (0 < r → ∀ i : Nat, i < l.length → es.getD i 0 = earlyT al l i)))
               case atStart => exact ⟨0, rfl, ⟨by omega⟩, ⟨_, HE0.out, fun h => absurd h (Nat.lt_irrefl 0)⟩⟩
               case round =>
                obtain ⟨r, rfl, HN5, HEX⟩ := hrel
                obtain ⟨es, hE, hEall⟩ := HEX.out
                have HER := Lib.hid hE
                have HEA := Lib.hid hEall
                clear HEX hE hEall HE0
                cases gk with
                | succ k5 => as_aux_lemma =>
                 have hlr : decide ((r : Int) < n) = true := decide_eq_true (by have := HN5.out; omega)
                 have hrb : r < 20 := by have := HN5.out; omega
                 have y0 : wr.cell? ⟨w.heap.size, 0, none⟩ = some (.int .i64 n) := (HV7.out.below HER.out.g).P.y.cell 0
                 have helen := HER.out.len
                 go_wp2
                 go_loopg [31, 32] l.length (fun kq v31 v32 w' => ∃ (i : Nat), v31 = .int .i64 i ∧ Aside0 (i + kq = l.length) ∧ Aside0 (∃ es, EarR W15 w' bE capE al l es ∧ (∀ j < i, es.getD j 0 = earlyT al l j)))
                 case atStart => exact ⟨0, rfl, ⟨by omega⟩, ⟨_, HER.out, fun j h => absurd h (Nat.not_lt_zero _)⟩⟩
                 case round =>
                  clear y0 HER HEA helen
                  obtain ⟨i, rfl, HN6, HEX⟩ := hrel
                  obtain ⟨es1, hE, hEall⟩ := HEX.out
                  have HER := Lib.hid hE
                  have HEA := Lib.hid hEall
                  clear HEX hE hEall
                  cases gk with
                  | succ k6 => as_aux_lemma =>
                   have hlt : i < l.length := by have := HN6.out; omega
                   have hl6 : decide ((i : Int) < (l.length : Int)) = true := decide_eq_true (by omega)
                   have hi7 : (i : Int) < (l.length : Int) := by omega
                   have hi8 : decide (i < l.length) = true := decide_eq_true hlt
                   have hmi := HY.out.mv _ (rdM (l := l) (show (0 : Int) ≤ (i : Int) by omega) hi7)
                   have HET := Lib.hid (show earlyT al l i = if gc al (rd_T58 l (i : Int)).f0 ≤ (rd_T58 l (i : Int)).f2.f1 then max (rd_T58 l (i : Int)).f2.f0 (gc al (rd_T58 l (i : Int)).f0) else (rd_T58 l (i : Int)).f2.f0 from rfl)
                   have HEK := Lib.hid (HER.out.ok i hlt)
                   obtain ⟨ad3, eA3, hm0, hm1, hm2, hm3⟩ := at_T58 (HV7.out.below HER.out.g).P.C (i : Int) (by omega) hi7
                   cases eA3
                   rw [Int.toNat_natCast] at hm0 hm1 hm2 hm3
                   have y1 : wr.cell? ⟨w.heap.size, 1, none⟩ = some (.slice (some ad) l.length c) := (HV7.out.below HER.out.g).P.y.cell 1
                   have hfi0 := hmi.1
                   have hfi1 : (rd_T58 l (i : Int)).f0 < (al.length : Int) := by have := hmi.2.1; have := HAL.out; omega
                   clear hmi
                   generalize rd_T58 l (i : Int) = m at *
                   go_upto_region 55 with (fail)
                   have HE6 := Lib.hid (HER.out.below (below_alloc (Below.refl wr.heap.size wr) (.cells #[.int .i64 m.f0, .int .i64 m.f1, .int .i64 m.f2.f0, .int .i64 m.f2.f1] 58)))
                   have HBm := Lib.hid (Blk.new wr #[.int .i64 m.f0, .int .i64 m.f1, .int .i64 m.f2.f0, .int .i64 m.f2.f1] 58)
                   clear hm0 hm1 hm2 hm3 y1
                   generalize wr.alloc (.cells #[.int .i64 m.f0, .int .i64 m.f1, .int .i64 m.f2.f0, .int .i64 m.f2.f1] 58) = W17 at *
                   generalize wr.heap.size = bm at *
                   obtain ⟨adA, eA, hxA⟩ := Kd.at_int (HV7.out.below HE6.out.g).a.C m.f0 hfi0 (by omega)
                   cases eA
                   have c0 : W17.cell? ⟨bm, 0, none⟩ = some (.int .i64 m.f0) := HBm.out.cell 0
                   have c3 : W17.cell? ⟨bm, 3, none⟩ = some (.int .i64 m.f2.f1) := HBm.out.cell 3
                   rw [show ∀ x, gc al x = rd al x from fun _ => rfl] at HET
                   obtain ⟨aa, haa⟩ : ∃ aa, rd al m.f0 = aa := ⟨_, rfl⟩
                   rw [haa] at hxA HET
                   have HAA := Lib.hid haa
                   clear haa
                   by_cases hle : aa ≤ m.f2.f1
                   ·have hd : decide (aa ≤ m.f2.f1) = true := decide_eq_true hle
                    have het := HET.out
                    rw [if_pos hle] at het
                    have HET2 := Lib.hid het
                    clear hle het
                    go_quiet (fail)
                    have HE7 := Lib.hid (HE6.out.below (drawn_below (W' := W17.drewN nq) ⟨nq, rfl⟩))
                    have HB7 := Lib.hid (HBm.out.below (drawn_below (W' := W17.drewN nq) ⟨nq, rfl⟩) HBm.out.lt)
                    clear hxA c0 c3
                    go_upto_region 56 with (fail)
                    generalize W17.drewN nq = W18 at *
                    obtain ⟨Wd, ed⟩ : ∃ Wd, W18.drew = Wd := ⟨_, rfl⟩
                    have hbd : Below W18.heap.size W18 Wd := by rw [← ed]; exact below_drew (Below.refl _ _)
                    have HE8 := Lib.hid (HE7.out.below hbd)
                    have HB8 := Lib.hid (HB7.out.below hbd HB7.out.lt)
                    obtain ⟨adA2, eA2, hxA⟩ := Kd.at_int (HV7.out.below HE8.out.g).a.C m.f0 hfi0 (by omega)
                    cases eA2
                    rw [HAA.out] at hxA
                    have c0 : Wd.cell? ⟨bm, 0, none⟩ = some (.int .i64 m.f0) := HB8.out.cell 0
                    have c2 : Wd.cell? ⟨bm, 2, none⟩ = some (.int .i64 m.f2.f0) := HB8.out.cell 2
                    obtain ⟨zO, cO⟩ : ∃ z, Wd.cell? ⟨bE, i, none⟩ = some (.int .i64 z) := ⟨_, HE8.out.row.cell i (by rw [HE8.out.len]; exact hlt)⟩
                    have fO := HE8.out.row.fz i
                    have HST := Lib.hid (HE8.out.step HBE.out hlt HET2.out.symm)
                    refine wp_region_still_tail 11 (by kernel_rfl) (by kernel_rfl) ?_
                    simp only [List.take_succ_cons, List.take_zero, List.drop_succ_cons, List.drop_zero]
                    generalize hzz : ({ heap := W18.heap, tape := W18.tape, drawn := W18.drawn + 1, os := W18.os, output := W18.output } : World) = Wz
                    have hz1 : Wz = Wd := hzz.symm.trans ed
                    subst hz1
                    clear hzz
                    repeat still_step
                    refine wpStill_nil ?_
                    go_wp2
                    go_roundg k6
                    case rel => exact ⟨i + 1, by go_num, ⟨by have := HN6.out; omega⟩, ⟨_, HST.out.1, HST.out.2 HEA.out⟩⟩
                    case measure => omega
                   ·have hd : decide (aa ≤ m.f2.f1) = false := decide_eq_false hle
                    have het := HET.out
                    rw [if_neg hle] at het
                    have HEE := Lib.hid (show es1.getD i 0 = earlyT al l i from by
                     rcases HEK.out with e | e
                     ·rw [e, het]
                     ·exact e)
                    clear hle het
                    go_quiet (fail)
                    have HE7 := Lib.hid (HE6.out.below (drawn_below (W' := W17.drewN nq) ⟨nq, rfl⟩))
                    go_wp2
                    go_roundg k6
                    case rel => exact ⟨i + 1, by go_num, ⟨by have := HN6.out; omega⟩, ⟨_, HE7.out, fun j hj => by
                     by_cases e : j = i
                     ·rw [e]; exact HEE.out
                     ·exact HEA.out j (by omega)⟩⟩
                    case measure => omega
                  | zero =>
                   have hi : i = l.length := by have := HN6.out; omega
                   subst hi
                   have hl6 : decide ((l.length : Int) < (l.length : Int)) = false := decide_eq_false (by omega)
                   go_wp2
                   go_roundg k5
                   case rel => exact ⟨r + 1, by go_num, ⟨by have := HN5.out; omega⟩, ⟨_, HER.out, fun _ i hi => HEA.out i hi⟩⟩
                   case measure => omega
                | zero =>
                 have hr : r = n.toNat := by have := HN5.out; omega
                 subst hr
                 have hlr : decide (((n.toNat : Nat) : Int) < n) = false := decide_eq_false (by omega)
                 have HALL := Lib.hid (HEA.out (by omega))
                 have y0 : wr.cell? ⟨w.heap.size, 0, none⟩ = some (.int .i64 n) := (HV7.out.below HER.out.g).P.y.cell 0
                 have HES := Lib.hid (show es = earlyL al l from by
                  apply List.ext_getElem
                  ·rw [HER.out.len]; simp [earlyL]
                  ·intro i h1 h2
                   have := HALL.out i (by rw [← HER.out.len]; exact h1)
                   rw [List.getD_eq_getElem?_getD, List.getElem?_eq_getElem h1] at this
                   simp only [Option.getD_some] at this
                   rw [this]
                   simp [earlyL])
                 have m3 : wr.cell? ⟨bM, 3, none⟩ = some (.int .i64 (rd_T58 l kk).f2.f1) := (HB7.out.below HER.out.g HB7.out.lt).cell 3
                 obtain ⟨zO, cO⟩ : ∃ z, wr.cell? ⟨bE, kk.toNat, none⟩ = some (.int .i64 z) := ⟨_, HER.out.row.cell kk.toNat (by rw [HER.out.len]; exact hkl)⟩
                 have fO := HER.out.row.fz kk.toNat
                 have HROW := Lib.hid (HER.out.row.set kk.toNat (by rw [HER.out.len]; exact hkl) (rd_T58 l kk).f2.f1)
                 have HBS := Lib.hid (below_set (j := kk.toNat) (v := Value.int .i64 (rd_T58 l kk).f2.f1) HER.out.g HBE.out)
                 have HLE := Lib.hid HER.out.len
                 go_upto_region 58 with (fail)
                 clear m3 cO fO HALL HER HEA y0
                 generalize wr.setCell ⟨bE, kk.toNat, none⟩ (.int .i64 (rd_T58 l kk).f2.f1) = W20 at *
                 have HV8 := Lib.hid (HV7.out.below HBS.out)
                 have HB8 := Lib.hid (HB7.out.below HBS.out HB7.out.lt)
                 obtain ⟨es2, hes2⟩ : ∃ es2, es.set kk.toNat (rd_T58 l kk).f2.f1 = es2 := ⟨_, rfl⟩
                 have HL2 := Lib.hid (show es2.length = l.length from by rw [← hes2, List.length_set]; exact HLE.out)
                 have HE2 := Lib.hid (show es2 = (earlyL al l).set kk.toNat l[kk.toNat].f2.f1 from by rw [← hes2, HES.out, HRK.out])
                 rw [hes2] at HROW
                 clear hes2
                 have hTO := HEO.out kk.toNat hkl
                 rw [← HE2.out] at hTO
                 have hyc := HYES.out
                 rw [HRK.out] at hyc
                 have hec := HEC.out kk.toNat hkl hyc
                 rw [← HE2.out, ← HRK.out] at hec
                 have HCE2 := Lib.hid (comes_eq HY.out hTO hst hsv 1800 (by omega))
                 have hcl2 : (comeF n l sv st es2).length = 20 := by
                  have hyf := fixL_ok HY.out hTO
                  obtain ⟨rk, C⟩ := run_found (fun _ => true) hyf (StepOK.soon hyf) hst hsv
                  exact C.len
                 rw [← gc_take' (comeF n l sv st es2) n (rd_T58 l kk).f0 hf0 hf1] at hec
                 have HEC2 := Lib.hid hec
                 have HLC := Lib.hid (show ((comeF n l sv st es2).take n.toNat).length = n.toNat from by rw [List.length_take, hcl2]; omega)
                 clear hyc hec hTO hcl2
                 generalize (comeF n l sv st es2).take n.toNat = cm2 at *
                 have HK2 := Lib.hid (forecourtlaw05_Comes.calls 1800 n (some ad) c l sv st (some ⟨bE, 0, none⟩) capE es2 cm2 W20 HV8.out.P.C HV8.out.P.hc HROW.out.reads HROW.out.le HCE2.out)
                 rw [HL2.out] at HK2
                 have y0 : W20.cell? ⟨w.heap.size, 0, none⟩ = some (.int .i64 n) := HV8.out.P.y.cell 0
                 have y1 : W20.cell? ⟨w.heap.size, 1, none⟩ = some (.slice (some ad) l.length c) := HV8.out.P.y.cell 1
                 have s0 : W20.cell? ⟨w.heap.size + 1, 0, none⟩ = some (.int .i64 sv) := HV8.out.P.s.cell 0
                 have s1 : W20.cell? ⟨w.heap.size + 1, 1, none⟩ = some (.int .i64 st) := HV8.out.P.s.cell 1
                 go_upto_region 59 with (go_at_call 40; refine (HK2.out).mono ?_; rintro e W21 ⟨vz, rfl, ho, hb⟩; obtain ⟨Az, cz, hv⟩ := Kd.R_slice ho; subst hv; have HZ := Lib.hid (Rd.of ho); have HB := Lib.hid hb; clear ho hb)
                 clear y0 y1 s0 s1 HK2
                 have HV9 := Lib.hid (HV8.out.below HB.out)
                 have HB9 := Lib.hid (HB8.out.below HB.out HB8.out.lt)
                 have HR9 := Lib.hid (HROW.out.below HB.out HROW.out.lt)
                 have HW := Lib.hid (fun (d : Nat) (os : Array Obj) => works_calls (Go.«Sort».grow (redrawn W21 d) os))
                 obtain ⟨adA, eA, hxA⟩ := Kd.at_int HV9.out.a.C (rd_T58 l kk).f0 hf0 (by have := HAL.out; omega)
                 cases eA
                 obtain ⟨adZ, eZ, hxZ⟩ := Kd.at_int HZ.out.C (rd_T58 l kk).f0 hf0 (by have := HLC.out; omega)
                 cases eZ
                 have hfa : (rd_T58 l kk).f0 < (al.length : Int) := by have := HAL.out; omega
                 have hfz : (rd_T58 l kk).f0 < (cm2.length : Int) := by have := HLC.out; omega
                 have hkl2 : kk.toNat < es2.length := by rw [HL2.out]; exact hkl
                 have hxE := HR9.out.cell kk.toNat hkl2
                 have hev : es2[kk.toNat] = (rd_T58 l kk).f2.f1 := by
                  have e1 : es2[kk.toNat]? = some (rd_T58 l kk).f2.f1 := by
                   rw [HE2.out, ← HRK.out, List.getElem?_set, if_pos rfl, if_pos (by simp [earlyL]; exact hkl)]
                  rw [List.getElem?_eq_getElem hkl2] at e1
                  exact Option.some.inj e1
                 rw [hev] at hxE
                 have heq := HEC2.out
                 have hyes := HYES.out
                 rw [show gc cm2 (rd_T58 l kk).f0 = rd cm2 (rd_T58 l kk).f0 from rfl, show gc al (rd_T58 l kk).f0 = rd al (rd_T58 l kk).f0 from rfl] at heq
                 rw [show gc al (rd_T58 l kk).f0 = rd al (rd_T58 l kk).f0 from rfl] at hyes
                 rw [heq] at hxZ
                 have gm0 := cell_regrown (show W21.cell? ⟨bM, 0, none⟩ = some (.int .i64 (rd_T58 l kk).f0) from HB9.out.cell 0)
                 have gA := cell_regrown hxA
                 have gZ := cell_regrown hxZ
                 have gE := cell_regrown hxE
                 have HWG := Lib.hid HV9.out.P.g
                 clear hxA hxZ hxE hev heq hkl2
                 generalize rd al (rd_T58 l kk).f0 = aa at *
                 generalize (rd_T58 l kk).f2.f1 = hh at *
                 generalize (rd_T58 l kk).f0 = ff at *
                 have hd : decide (hh ≥ aa) = true := decide_eq_true hyes
                 have hd2 : decide (aa ≤ hh) = true := decide_eq_true hyes
                 clear hyes
                 refine wp_region_quiet_below (by kernel_rfl) (by kernel_rfl) ?_
                 repeat (go_big_quiet_step ((go_at_call 15; exact Calls.regrown_of (HW.out _ _))))
                 refine wpQuiet_nil ?_
                 intro _ hw'
                 obtain ⟨⟨dq, osq⟩, hw''⟩ := hw'
                 subst hw''
                 clear gm0 gA gZ gE
                 go_wp2
                 go_ret
                 exact ⟨rfl, HWG.out.trans ((below_regrown W21 dq osq).mono HWG.out.size)⟩
end Go.Proofs.Ytfhmepdbbhcncaa.P
