/- Texts of this claim, joined: E32, E33, E34, E35, X, Pf16, Pf18, Px1, Pf26, Pf29, Pf41, Pf42, Pf31, Pf32, Pf37, Pf38, Pf45, Pf46. -/
import Derived.Test.YtcgdbjojjpoegaaGc3
namespace Go.Proofs.Ytcgdbjojjpoegaa.P
open Go.RowKit Go.Shelf Go.Proofs.YtcgdbjojjpoegaaW.PrintWords Go.Proofs.YtcgdbjojjpoegaaW.PrintLast Go.Proofs.YtcgdbjojjpoegaaW.PrintMore Go.Proofs.YtcgdbjojjpoegaaM Go.Proofs.YtcgdbjojjpoegaaR
set_option linter.unusedVariables false
set_option linter.unusedSimpArgs false
def forceR (den : Int) (cell : Nat) (up : Bool) : Nat → List Am → Option (List Am)
  | 0, am => if brk den (amAt am cell) = true then none else some am
  | k + 1, am => if brk den (amAt am cell) = true then (pushR den am cell up).bind (forceR den cell up k) else some am
def cellAt (l : List (List Int)) (line col : Int) : Int := rd (rd_L2 l line) col
def pole_Force.f (den : Int) (l : List (List Int)) (line col : Int) (up : Bool) : Option (List (List Int) × Int) :=
  if tableE den l ≠ 0 then some ([], tableE den l) else if line < 0 ∨ line ≥ (l.length : Int) ∨ col < 0 ∨ col ≥ ((rd_L2 l 0).length : Int) then some ([], 3)
  else if (cellAt l line col).tmod den = 0 then some ([], 5)
  else (forceR den (line.toNat * (rd_L2 l 0).length + col.toNat) up 100 (bookAm l)).bind fun am1 => (settleR den 100 am1).bind fun am2 => some (coinsL den am2 (rd_L2 l 0).length l.length, 0)
theorem forceR_alike {den : Int} {cell : Nat} {up : Bool} : ∀ (k : Nat) (am am2 : List Am), cell < am.length → forceR den cell up k am = some am2 → Alike am am2
  | 0, am, am2, _, h => by
    rw [forceR] at h
    split at h
    · cases h
    · injection h with h; exact h ▸ Alike.refl am
  | k + 1, am, am2, hc, h => by
    rw [forceR] at h
    split at h
    · cases hp : pushR den am cell up with
      | none => rw [hp] at h; cases h
      | some am3 =>
        rw [hp] at h
        have h1 := pushR_alike hc hp
        exact h1.trans (forceR_alike k am3 am2 (by rw [h1.1]; exact hc) h)
    · injection h with h; exact h ▸ Alike.refl am

set_option maxHeartbeats 3000000 in
set_option maxRecDepth 100000 in
theorem pole_Force.calls (den : Int) (A : Option Addr) (c : Nat) (l : List (List Int)) (line col : Int) (up : Bool) (r1 : List (List Int)) (r2 : Int) (w : World) (hr : Kd.C (Kd.slice 2 (Kd.int .i64)) w A l.length l) (hcl : l.length ≤ c) (h : pole_Force.f den l line col up = some (r1, r2)) :
    Calls Try.prog 33 #[.agg #[.int .i64 den, .slice A l.length c], .int .i64 line, .int .i64 col, .bool up] w fun e w' => ∃ v0_ : Value, e = .returned (.tuple #[v0_, .int .i64 r2]) ∧ Kd.S (Kd.slice 2 (Kd.int .i64)) 48 w' w.heap.size (fun _ => True) v0_ r1 ∧ Below w.heap.size w w' := by
  have HR := Lib.hid hr
  have HC := Lib.hid hcl
  have HH := Lib.hid h
  have HL := Lib.hid hr.2.1
  have BK := Lib.hid (blk_new w (.cells #[.int .i64 den, .slice A l.length c] 39))
  have HB := Lib.hid (box1 w (.cells #[.int .i64 den, .slice A l.length c] 39))
  clear hr hcl h
  go_enter Try.func33, Try.ntmps33
  go_upto_region 1 with (fail)
  generalize w.alloc (.cells #[.int .i64 den, .slice A l.length c] 39) = W0 at *
  obtain ⟨g, eg⟩ : ∃ g, w.heap.size = g := ⟨_, rfl⟩
  rw [eg] at BK ⊢
  replace eg := Lib.hid eg
  have y0 : W0.cell? ⟨g, 0, none⟩ = some (.int .i64 den) := (blk_cell BK.out 0).trans rfl
  have y1 : W0.cell? ⟨g, 1, none⟩ = some (.slice A l.length c) := (blk_cell BK.out 1).trans rfl
  have HCT := Lib.hid (checkTable_calls den A c l W0 (Kd.C_below HR.out HB.out) HC.out)
  obtain ⟨E, eE⟩ : ∃ E, tableE den l = E := ⟨_, rfl⟩
  rw [eE] at HCT
  go_upto_region 2 with (go_at_call 28; refine (HCT.out).mono ?_; rintro e W1 ⟨rfl, hb1⟩; have HB1 := Lib.hid hb1; clear hb1)
  have HB1w := Lib.hid (below_then HB.out HB.out.size HB1.out)
  have BK1 := Lib.hid (blk_below BK.out HB1.out)
  clear y0 y1 HB BK HCT
  by_cases q1 : E = 0
  rotate_left
  · have t1 : (E != 0) = true := by simp [q1]
    have F1 := Lib.hid (show ([], E) = (r1, r2) by
      have h := HH.out
      unfold pole_Force.f at h
      rw [eE, if_pos q1] at h
      injection h)
    clear q1 eE
    go_wp2
    go_ret2
    rw [← (Prod.mk.inj F1.out).1, ← (Prod.mk.inj F1.out).2]
    exact ⟨_, rfl, Kd.S_nil _ _ _ _ _, HB1w.out⟩
  have t1 : (E != 0) = false := by simp [q1]
  have HV := Lib.hid (Valid.of (eE.trans q1))
  have F1 := Lib.hid (show (if line < 0 ∨ line ≥ (l.length : Int) ∨ col < 0 ∨ col ≥ ((rd_L2 l 0).length : Int) then some ([], 3) else if (cellAt l line col).tmod den = 0 then some ([], 5) else (forceR den (line.toNat * (rd_L2 l 0).length + col.toNat) up 100 (bookAm l)).bind fun am1 => (settleR den 100 am1).bind fun am2 => some (coinsL den am2 (rd_L2 l 0).length l.length, 0)) = some (r1, r2) by
    have h := HH.out
    unfold pole_Force.f at h
    rwa [eE, if_neg (by rw [q1]; simp)] at h)
  clear q1 eE
  have y0 : W1.cell? ⟨g, 0, none⟩ = some (.int .i64 den) := (blk_cell BK1.out 0).trans rfl
  have y1 : W1.cell? ⟨g, 1, none⟩ = some (.slice A l.length c) := (blk_cell BK1.out 1).trans rfl
  obtain ⟨ad, A0, c0, eA, hc0, _⟩ := row0 (Kd.C_below HR.out HB1w.out) HV.out.n0
  subst eA
  obtain ⟨m, em⟩ : ∃ m, (rd_L2 l 0).length = m := ⟨_, rfl⟩
  rw [em] at F1 hc0
  have hm0 := HV.out.m0
  have hm6 := HV.out.m6
  rw [em] at hm0 hm6
  have hn6 := HV.out.n6
  have hd : den ≠ 0 := by have := HV.out.d1; omega
  by_cases u1 : line < 0
  · have v1 : decide (line < 0) = true := decide_eq_true u1
    have F2 := Lib.hid (show (([], 3) : List (List Int) × Int) = (r1, r2) by
      have h := F1.out
      rw [if_pos (.inl u1)] at h
      injection h)
    go_wp2
    go_ret2
    rw [← (Prod.mk.inj F2.out).1, ← (Prod.mk.inj F2.out).2]
    exact ⟨_, rfl, Kd.S_nil _ _ _ _ _, (by rw [← eg.out] at *; exact HB1w.out)⟩
  have v1 : decide (line < 0) = false := decide_eq_false u1
  by_cases u2 : line ≥ (l.length : Int)
  · have v2 : decide (line ≥ (l.length : Int)) = true := decide_eq_true u2
    have F2 := Lib.hid (show (([], 3) : List (List Int) × Int) = (r1, r2) by
      have h := F1.out
      rw [if_pos (.inr (.inl u2))] at h
      injection h)
    go_wp2
    go_ret2
    rw [← (Prod.mk.inj F2.out).1, ← (Prod.mk.inj F2.out).2]
    exact ⟨_, rfl, Kd.S_nil _ _ _ _ _, (by rw [← eg.out] at *; exact HB1w.out)⟩
  have v2 : decide (line ≥ (l.length : Int)) = false := decide_eq_false u2
  by_cases u3 : col < 0
  · have v3 : decide (col < 0) = true := decide_eq_true u3
    have F2 := Lib.hid (show (([], 3) : List (List Int) × Int) = (r1, r2) by
      have h := F1.out
      rw [if_pos (.inr (.inr (.inl u3)))] at h
      injection h)
    go_wp2
    go_ret2
    rw [← (Prod.mk.inj F2.out).1, ← (Prod.mk.inj F2.out).2]
    exact ⟨_, rfl, Kd.S_nil _ _ _ _ _, (by rw [← eg.out] at *; exact HB1w.out)⟩
  have v3 : decide (col < 0) = false := decide_eq_false u3
  by_cases u4 : col ≥ (m : Int)
  · have v4 : decide (col ≥ (m : Int)) = true := decide_eq_true u4
    have F2 := Lib.hid (show (([], 3) : List (List Int) × Int) = (r1, r2) by
      have h := F1.out
      rw [if_pos (.inr (.inr (.inr u4)))] at h
      injection h)
    go_wp2
    go_ret2
    rw [← (Prod.mk.inj F2.out).1, ← (Prod.mk.inj F2.out).2]
    exact ⟨_, rfl, Kd.S_nil _ _ _ _ _, (by rw [← eg.out] at *; exact HB1w.out)⟩
  have v4 : decide (col ≥ (m : Int)) = false := decide_eq_false u4
  obtain ⟨i, hi⟩ : ∃ i : Nat, line = (i : Int) := ⟨line.toNat, (by omega)⟩
  obtain ⟨k, hk⟩ : ∃ k : Nat, col = (k : Int) := ⟨col.toNat, (by omega)⟩
  subst hi hk
  have F2 := Lib.hid (show (if (cellAt l i k).tmod den = 0 then some ([], 5) else (forceR den (i * m + k) up 100 (bookAm l)).bind fun am1 => (settleR den 100 am1).bind fun am2 => some (coinsL den am2 m l.length, 0)) = some (r1, r2) by
    have h := F1.out
    rw [if_neg (by rintro (h | h | h | h); exact u1 h; exact u2 h; exact u3 h; exact u4 h)] at h
    exact h)
  clear F1 HH u1 u3
  have hin : i < l.length := by omega
  have hkm : k < m := by omega
  go_upto_region 6 with (fail)
  obtain ⟨ad2, A2, c2, e0, hcr, _, hC2⟩ := at_L2 (Kd.C_below HR.out HB1w.out) (i : Int) (by omega) (by omega)
  cases e0
  have hrl : (rd_L2 l (i : Int)).length = m := by rw [rd_L2_nat l i hin, HV.out.eq _ (List.getElem_mem hin), em]
  rw [hrl] at hcr
  rw [Int.toNat_natCast] at hcr
  obtain ⟨ad4, e4, hcx⟩ := Kd.at_int hC2 (k : Int) (by omega) (by omega)
  subst e4
  obtain ⟨x, ex⟩ : ∃ x, cellAt l i k = x := ⟨_, rfl⟩
  have ex2 : rd (rd_L2 l (i : Int)) (k : Int) = x := ex
  rw [Int.toNat_natCast, ex2] at hcx
  rw [ex] at F2
  have hz : (den == 0) = false := beq_eq_false_iff_ne.mpr hd
  have hil : (i : Int) < (l.length : Int) := by omega
  have hkl : (k : Int) < (m : Int) := by omega
  have HLm := HL.out
  have hmx : m ≤ 9223372036854775807 := by omega
  clear hC2 ex ex2 hrl u2 u4
  by_cases u5 : x.tmod den = 0
  · have v5 : (x.tmod den == 0) = true := by simp [u5]
    have F3 := Lib.hid (show (([], 5) : List (List Int) × Int) = (r1, r2) by
      have h := F2.out
      rw [if_pos u5] at h
      injection h)
    clear F2 u5
    go_quiet (fail)
    go_wp2
    go_ret2
    rw [← (Prod.mk.inj F3.out).1, ← (Prod.mk.inj F3.out).2]
    exact ⟨_, rfl, Kd.S_nil _ _ _ _ _, below_dN HB1w.out _⟩
  have v5 : (x.tmod den == 0) = false := by simp [u5]
  obtain ⟨am1, am2, hf1, hs2, hr1⟩ : ∃ am1 am2, forceR den (i * m + k) up 100 (bookAm l) = some am1 ∧ settleR den 100 am1 = some am2 ∧ (coinsL den am2 m l.length, 0) = (r1, r2) := by
    have h := F2.out
    rw [if_neg u5] at h
    cases hf : forceR den (i * m + k) up 100 (bookAm l) with
    | none => rw [hf] at h; cases h
    | some am1 =>
      rw [hf, Option.bind_some] at h
      cases hs : settleR den 100 am1 with
      | none => rw [hs] at h; cases h
      | some am2 => rw [hs, Option.bind_some] at h; injection h with h; exact ⟨am1, am2, rfl, hs, h⟩
  have HF := Lib.hid hf1
  have HSE := Lib.hid hs2
  have HR1 := Lib.hid hr1
  clear F2 u5 hf1 hs2 hr1
  go_quiet (fail)
  have HB2w := Lib.hid (below_dN HB1w.out nq)
  have BK2 := Lib.hid (blk_below BK1.out (below_dN (Below.refl W1.heap.size W1) nq))
  clear y0 y1 hcr hcx hc0 HB1w BK1 HB1
  generalize W1.drewN nq = W2 at *
  have y0 : W2.cell? ⟨g, 0, none⟩ = some (.int .i64 den) := (blk_cell BK2.out 0).trans rfl
  have y1 : W2.cell? ⟨g, 1, none⟩ = some (.slice (some ad) l.length c) := (blk_cell BK2.out 1).trans rfl
  have HNB := Lib.hid (newBook_calls den (some ad) c l W2 (Kd.C_below HR.out HB2w.out) HC.out HV.out.n0 HV.out.n6 HV.out.m6 HV.out.eq)
  go_upto_region 9 with (go_at_call 67; refine (HNB.out).mono ?_; rintro e W3 ⟨B1, base1, bA1, cA1, rfl, hk1, hle1, hlt1, hb1⟩; have HK1 := Lib.hid (show Bk W3 B1 base1 den (.slice (some ad) l.length c) bA1 cA1 (bookAm l) zero14 from ⟨hk1, hlt1⟩); have HLE := Lib.hid (show W2.heap.size ≤ B1 from hle1); have HB3 := Lib.hid hb1; clear hk1 hle1 hlt1 hb1)
  clear y0 y1 HNB
  have HB3w := Lib.hid (below_then HB2w.out HB2w.out.size HB3.out)
  have BK3 := Lib.hid (blk_below BK2.out HB3.out)
  obtain ⟨ad5, A5, c5, e5, hc5, _⟩ := row0 (Kd.C_below HR.out HB3w.out) HV.out.n0
  cases e5
  rw [em] at hc5
  have y1 : W3.cell? ⟨g, 1, none⟩ = some (.slice (some ad) l.length c) := (blk_cell BK3.out 1).trans rfl
  have hl0 : (0 : Int) < (l.length : Int) := by omega
  have hi6 : i ≤ 6 := by omega
  have hk6 : k ≤ 6 := by omega
  obtain ⟨cell, ecell⟩ : ∃ x, i * m + k = x := ⟨_, rfl⟩
  have hcell : cell < (bookAm l).length := by
    rw [HV.out.tab.len, em]
    have h1 : (i + 1) * m ≤ l.length * m := Nat.mul_le_mul_right m hin
    rw [Nat.add_mul] at h1
    omega
  obtain ⟨hw1, hw2⟩ := mulW i m k hi6 hm6 hk6
  rw [ecell] at hw2 HF
  generalize i * m = im at *
  go_upto_region 10 with (fail)
  rw [hw2]
  clear hw1 hw2 hc5 y1 ecell v1 v2 v3 v4 v5 hil hkl hmx hz hi6 hk6 hin hkm
  have hsz2 := HB2w.out.size
  have hle1 := HLE.out
  have hA1 := HK1.out.base_le
  have hl1 := HK1.out.lt
  have hTB := Lib.hid HV.out.tab
  have HI0 := Lib.hid (show BI W3 W3 B1 base1 den (.slice (some ad) l.length c) bA1 cA1 (bookAm l) zero14 from ⟨HK1.out, G2.refl _ _ _⟩)
  go_loopg [68] 100 (fun kq v68 w' => ∃ (amk : List Am) (sn : List Int), Aside0 (BI W3 w' B1 base1 den (.slice (some ad) l.length c) bA1 cA1 amk sn) ∧ Aside0 (Alike (bookAm l) amk) ∧ Aside0 (forceR den cell up kq amk = some am1))
  case atStart => exact ⟨bookAm l, _, ⟨HI0.out⟩, ⟨Alike.refl _⟩, ⟨HF.out⟩⟩
  clear HI0 HF
  obtain ⟨amk, sn, HI, HAL, HT⟩ := hrel
  have hlk : amk.length ≤ 100 := by rw [HAL.out.1]; exact hTB.out.le100
  have hck : cell < amk.length := by rw [HAL.out.1]; exact hcell
  have HOK := Lib.hid (hTB.out.ok.alike HAL.out)
  have HBR := Lib.hid (broken_calls (W := wr) HI.out.bk cell hck hd)
  obtain ⟨bb, hbb⟩ : ∃ b, brk den amk[cell] = b := ⟨_, rfl⟩
  rw [hbb] at HBR
  have hbt : brk den (amAt amk cell) = bb := by rw [amAt_nat amk cell hck]; exact hbb
  clear hbb
  cases bb with
  | false => as_aux_lemma =>
    have HE := Lib.hid (show amk = am1 by
      have h := HT.out
      cases gk <;> (rw [forceR, if_neg (by rw [hbt]; simp)] at h; injection h))
    clear hbt
    go_upto_region 13 with (first
      | (go_at_call 69; refine (HBR.out).mono ?_; rintro e W4 ⟨rfl, hdr⟩; have HB4 := Lib.hid (drawn_below hdr); have HI4 := Lib.hid (HI.out.below HB4.out); have HSET := Lib.hid (settle_calls B1 base1 den _ bA1 cA1 amk sn W4 HI4.out.bk HOK.out hd hlk am2 100 (by rw [HE.out]; exact HSE.out)); clear hdr)
      | (go_at_call 71; refine (HSET.out).mono ?_; rintro e W5 ⟨⟨ve, rfl⟩, sn5, hb5, hg5⟩; have HI5 := Lib.hid (show BI W3 W5 B1 base1 den (.slice (some ad) l.length c) bA1 cA1 am2 sn5 from ⟨hb5, HI4.out.fr.trans hg5⟩); clear hb5 hg5))
    have HB5 := Lib.hid (show Below w.heap.size w W5 from HB2w.out.trans ((HB3.out.trans (HI5.out.fr.below (n := W2.heap.size) HB3.out.size (by omega) (by omega))).mono hsz2))
    have HAL2 := Lib.hid ((HAL.out.trans (settleR_alike 100 amk am2 (by rw [HE.out]; exact HSE.out))))
    have HCO := Lib.hid (coins_calls B1 base1 den (some ad) c bA1 cA1 m l am2 sn5 W5 HI5.out.bk (Kd.C_below HR.out HB5.out) HV.out.n0 hn6 hm0 hm6 em (by rw [HAL2.out.1, hTB.out.len, em]; omega) hd)
    clear HSET HBR HI
    go_wp2_with (go_at_call 72; refine (HCO.out).mono ?_; rintro e W6 ⟨A', c', rs, rfl, hl6, hg6, hb6⟩; have HL6 := Lib.hid hl6; have HG6 := Lib.hid hg6; have HB6 := Lib.hid hb6; clear hl6 hg6 hb6)
    go_ret2
    have hs5 := HB5.out.size
    rw [← (Prod.mk.inj HR1.out).1, ← (Prod.mk.inj HR1.out).2, ← HL6.out]
    exact ⟨_, rfl, (HG6.out.lower hs5).S, below_then HB5.out HB5.out.size HB6.out⟩
  | true => as_aux_lemma =>
    obtain ⟨k1, am3, hgk, hp3, hf3⟩ : ∃ k1 am3, gk = k1 + 1 ∧ pushR den amk cell up = some am3 ∧ forceR den cell up k1 am3 = some am1 := by
      have h := HT.out
      cases gk with
      | zero => rw [forceR, if_pos hbt] at h; cases h
      | succ k1 =>
        rw [forceR, if_pos hbt] at h
        cases hp : pushR den amk cell up with
        | none => rw [hp] at h; cases h
        | some am3 => rw [hp] at h; exact ⟨k1, am3, rfl, rfl, h⟩
    subst hgk
    have HP := Lib.hid hp3
    have HF3 := Lib.hid hf3
    clear hp3 hf3 hbt
    go_wp2_with (first
      | (go_at_call 69; refine (HBR.out).mono ?_; rintro e W4 ⟨rfl, hdr⟩; have HB4 := Lib.hid (drawn_below hdr); have HI4 := Lib.hid (HI.out.below HB4.out); have HPU := Lib.hid (push_calls B1 base1 den _ bA1 cA1 amk sn W4 HI4.out.bk cell hck HOK.out hd hlk up am3 HP.out); clear hdr)
      | (go_at_call 70; refine (HPU.out).mono ?_; rintro e W5 ⟨⟨ve, rfl⟩, sn5, hb5, hg5⟩; have HI5 := Lib.hid (show BI W3 W5 B1 base1 den (.slice (some ad) l.length c) bA1 cA1 am3 sn5 from ⟨hb5, HI4.out.fr.trans hg5⟩); clear hb5 hg5))
    go_roundg k1
    case rel => exact ⟨am3, sn5, ⟨HI5.out⟩, ⟨HAL.out.trans (pushR_alike hck HP.out)⟩, ⟨HF3.out⟩⟩
    case measure => omega
end Go.Proofs.Ytcgdbjojjpoegaa.P

namespace Go.Proofs.Ytcgdbjojjpoegaa.P
open Go.RowKit Go.Shelf Go.Proofs.YtcgdbjojjpoegaaW.PrintWords Go.Proofs.YtcgdbjojjpoegaaW.PrintLast Go.Proofs.YtcgdbjojjpoegaaW.PrintMore Go.Proofs.YtcgdbjojjpoegaaM Go.Proofs.YtcgdbjojjpoegaaR
set_option linter.unusedVariables false
set_option linter.unusedSimpArgs false

/-! ### Mix, as a plain function -/
def slackF (td ld a n c wt : Int) : Int :=
  if a.tmod td = 0 then wt else
    min wt (if c = wrap64 (a.tdiv td) then wrap64 (ld - wrap64 (n - wrap64 (wrap64 (a.tdiv td) * ld))) else wrap64 (n - wrap64 (wrap64 (a.tdiv td) * ld)))
def slackTo (td ld : Int) (am0 am1 am2 : List Am) (wt : Int) : Nat → Int
  | 0 => wt
  | k + 1 => slackF td ld (amAt am0 k).pa (amAt am1 k).pa (amAt am2 k).pa (slackTo td ld am0 am1 am2 wt k)
def takeL (wt : Int) (left coins : List (List Int)) : List (List Int) := List.zipWith (fun a b => List.zipWith (fun x n => wrap64 (x - wrap64 (wt * n))) a b) left coins
def mixR (td : Int) (am0 : List Am) (m n : Nat) : Nat → Int → List (List Int) → List S71 → Option (List S71)
  | 0, ld, left, out => if 0 < ld then none else some out
  | k + 1, ld, left, out => if 0 < ld then
      (settleR ld 100 (bookAm left)).bind fun am2 =>
        mixR td am0 m n k (wrap64 (ld - slackTo td ld am0 (bookAm left) (bookAm (coinsL ld am2 m n)) ld am0.length)) (takeL (slackTo td ld am0 (bookAm left) (bookAm (coinsL ld am2 m n)) ld am0.length) left (coinsL ld am2 m n))
          (out ++ [⟨slackTo td ld am0 (bookAm left) (bookAm (coinsL ld am2 m n)) ld am0.length, coinsL ld am2 m n⟩])
    else some out
def pole_Mix.f (den : Int) (l : List (List Int)) : Option (List S71 × Int) :=
  if tableE den l ≠ 0 then some ([], tableE den l) else (mixR den (bookAm l) (rd_L2 l 0).length l.length 60 den l []).bind fun out => some (out, 0)
/-! ### The parts in memory -/
section
variable {W W' : World} {base : Nat} {v : Value} {rs : List Ln}
theorem Grid.step (h : Grid W base v rs) (hm : ∀ k, base ≤ k → k < W.heap.size → W'.heap[k]? = W.heap[k]?) : Grid W' base v rs :=
  ⟨own_move h.own (fun k hk => hm k (own_base h.own k hk) (own_lt h.own k hk)), fun r hr => by
    obtain ⟨h1, ⟨⟨cur, hb, hc⟩, hle, hcm⟩, h3⟩ := h.rows r hr
    exact ⟨h1, ⟨⟨cur, (hm r.b h1 hb.lt).trans hb, hc⟩, hle, hcm⟩, h3⟩, h.nd⟩
theorem Grid.Rok (h : Grid W base v rs) (ok : Nat → Prop) (h1 : ∀ k, v.ownBlock = some k → ok k) (h2 : ∀ r ∈ rs, ok r.b) : Kd.R (Kd.slice 2 (Kd.int .i64)) 48 W base ok v (lines rs) := by
  refine ⟨h1, rs.map Ln.v, (by rw [lines_len]; exact h.own), (by simp [lines, Kd.slice]), fun j p hj => ?_⟩
  obtain ⟨hj1, hj2⟩ := List.getElem?_eq_some_iff.1 hj
  have hj' : j < rs.length := by simpa [lines] using hj1
  have hp2 : p = rs[j].l := by rw [← hj2]; simp [lines]
  subst hp2
  have hrow := h.rows _ (List.getElem_mem hj')
  have e : ((rs.map Ln.v).drop (j * (Kd.slice 2 (Kd.int .i64)).sz)).take (Kd.slice 2 (Kd.int .i64)).sz = [rs[j].v] := by
    show ((rs.map Ln.v).drop (j * 1)).take 1 = _
    rw [Nat.mul_one, List.drop_eq_getElem_cons (by simpa using hj')]
    simp
  rw [e]
  refine ⟨_, rfl, Kd.R_of_own (hrow.2.1.own hrow.1) (fun k hk => ?_)⟩
  have : k = rs[j].b := by simpa [Value.ownBlock, Ln.v] using hk.symm
  subst this
  exact ⟨h2 _ (List.getElem_mem hj'), hrow.2.2⟩
theorem Grid.form (h : Grid W base v rs) (hn : 0 < rs.length) : ∃ g c, v = .slice (some ⟨g, 0, none⟩) rs.length c ∧ base ≤ g ∧ g < W.heap.size ∧ rs.length ≤ c := by
  obtain ⟨h1, ⟨h0, hz⟩ | ⟨g, cap, cur, rfl, hg, hk, hle, hcm, hs, ht⟩⟩ := h.own
  · have : rs.length = 0 := by first | exact hz | exact hz.1
    omega
  exact ⟨g, cap, rfl, hg, blk_lt hk, hle⟩
end
structure Pt where
  wt : Int
  A : Option Addr
  c : Nat
  rs : List Ln
def Pt.v (p : Pt) : Value := .slice p.A p.rs.length p.c
def Pt.s (p : Pt) : S71 := ⟨p.wt, lines p.rs⟩
def cellsP : List Pt → List Value
  | [] => []
  | p :: l => [.int .i64 p.wt, p.v] ++ cellsP l
theorem cellsP_append : ∀ (a b : List Pt), cellsP (a ++ b) = cellsP a ++ cellsP b
  | [], b => rfl
  | m :: a, b => by rw [List.cons_append, cellsP, cellsP, cellsP_append a b, List.append_assoc]
theorem cellsP_len : ∀ (l : List Pt), (cellsP l).length = l.length * 2
  | [] => rfl
  | m :: l => by
    simp only [cellsP, List.length_append, cellsP_len l, List.length_cons, List.length_nil]
    omega
/-- The parts of a mixture, of the call's own. -/
structure OutR (W : World) (base : Nat) (v : Value) (ps : List Pt) : Prop where
  own : W.ownsRow base 71 2 v ps.length (cellsP ps)
  el : ∀ p ∈ ps, Grid W base p.v p.rs ∧ (∀ k, p.v.ownBlock = some k → some k ≠ v.ownBlock) ∧ ∀ r ∈ p.rs, some r.b ≠ v.ownBlock
section
variable {W W' : World} {base : Nat} {v : Value} {ps : List Pt}
theorem OutR.nil (W : World) (base : Nat) : OutR W base (.slice none 0 0) [] := ⟨own_nil _ _ _ _, by simp⟩
theorem OutR.step (h : OutR W base v ps) (hm : ∀ k, base ≤ k → k < W.heap.size → W'.heap[k]? = W.heap[k]?) : OutR W' base v ps :=
  ⟨own_move h.own (fun k hk => hm k (own_base h.own k hk) (own_lt h.own k hk)), fun p hp => ⟨(h.el p hp).1.step hm, (h.el p hp).2⟩⟩
theorem OutR.lower {base' : Nat} (h : OutR W base v ps) (hb : base' ≤ base) : OutR W base' v ps :=
  ⟨own_weaken h.own hb, fun p hp => ⟨(h.el p hp).1.lower hb, (h.el p hp).2⟩⟩
theorem OutR.R (h : OutR W base v ps) : Kd.R k71 71 W base (fun _ => True) v (ps.map Pt.s) := by
  refine ⟨fun _ _ => trivial, cellsP ps, (by rw [List.length_map]; exact h.own), ?_⟩
  have key : ∀ l : List Pt, (∀ p ∈ l, Grid W base p.v p.rs ∧ (∀ k, p.v.ownBlock = some k → some k ≠ v.ownBlock) ∧ ∀ r ∈ p.rs, some r.b ≠ v.ownBlock) → Reps (k71.M W base fun k => True ∧ some k ≠ v.ownBlock) 2 (l.map Pt.s) (cellsP l) := by
    intro l
    induction l with
    | nil => exact fun _ => Reps.none _ _
    | cons p l ih =>
      intro hl
      have h1 := hl p (by simp)
      exact Reps.c2 (k71_mkM _ _ _ p.s (h1.1.Rok _ (fun k hk => ⟨trivial, h1.2.1 k hk⟩) (fun r hr => ⟨trivial, h1.2.2 r hr⟩))) (ih (fun q hq => hl q (by simp [hq])))
  exact key ps h.el
theorem info71 : (Try.prog.info? 71).map (fun i => (i.zero, i.size, i.bytes)) = some (some (.agg #[(.int .i64 0), (.slice none 0 0)]), 2, 32) := by kernel_rfl
theorem OutR.snoc (h : OutR W base v ps) (hl : ps.length ≤ 1000) (p : Pt) (hg : Grid W base p.v p.rs) (hne : ∀ k, p.v.ownBlock = some k → some k ≠ v.ownBlock) (hnr : ∀ r ∈ p.rs, some r.b ≠ v.ownBlock) (hlt : ∀ k, p.v.ownBlock = some k → k < W.heap.size) (hbase : base ≤ W.heap.size) :
    ∃ A' c' w', (∀ ty, (Builtin.append_ #[69, 69] ty #[v, .slice (some ⟨W.heap.size, 0, none⟩) 1 1]).run Try.prog (W.alloc (.cells #[.int .i64 p.wt, p.v] 71)) = .ok (.slice A' (ps.length + 1) c') w') ∧ OutR w' base (.slice A' (ps.length + 1) c') (ps ++ [p]) ∧ (W.alloc (.cells #[.int .i64 p.wt, p.v] 71)).grownBy w' v.ownBlock := by
  obtain ⟨ti, hi, hz, hs, hby⟩ := info_parts info71
  have hmx : maxLen = 9223372036854775807 := rfl
  have hal : W.grownBy (W.alloc (.cells #[.int .i64 p.wt, p.v] 71)) none := World.grownBy_alloc _ _ _
  have hm1 : ∀ k, base ≤ k → k < W.heap.size → (W.alloc (.cells #[.int .i64 p.wt, p.v] 71)).heap[k]? = W.heap[k]? := fun k _ hk => hal.block k hk (by simp)
  have h1 := h.step hm1
  have hg1 := hg.step hm1
  obtain ⟨v', w', ha, h2, h3, h4, h5⟩ := run_append_own_at (P := Try.prog) (w := W.alloc (.cells #[.int .i64 p.wt, p.v] 71)) base 69 69 71 ti _ 2 32 Try.underlying69 hi hz hs hby rfl (by decide) v ps.length _ h1.own ⟨W.heap.size, 0, none⟩ 1 1 [.int .i64 p.wt, p.v] rfl (fun j u hu => by
    rw [Addr.add_lit, Nat.zero_add, blk_cell (blk_new W _), ← Array.getElem?_toList]
    exact hu) (by simp [Value.oneCell', Pt.v]) (by omega) (by omega) (by simp; omega)
  have h2' : w'.ownsRow base 71 2 v' (ps ++ [p]).length (cellsP (ps ++ [p])) := by rw [List.length_append, cellsP_append]; exact h2
  obtain ⟨g', c', rfl, hge, hgl⟩ := h2.form (by omega)
  have hsz : (W.alloc (.cells #[.int .i64 p.wt, p.v] 71)).heap.size = W.heap.size + 1 := by simp
  have hv' : ∀ k, k < W.heap.size → some k ≠ v.ownBlock → some k ≠ (Value.slice (some ⟨g', 0, none⟩) (ps.length + 1) c').ownBlock := by
    intro k hk hk2 e
    have e1 : k = g' := by simpa [Value.ownBlock] using e
    subst e1
    rcases h5 with h5 | h5
    · exact hk2 (by rw [← h5]; simp [Value.ownBlock])
    · have e3 : k = W.heap.size + 1 := by simpa [Value.ownBlock] using h5
      omega
  have kg : ∀ q : Pt, Grid (W.alloc (.cells #[.int .i64 p.wt, p.v] 71)) base q.v q.rs → (∀ k, q.v.ownBlock = some k → some k ≠ v.ownBlock) → (∀ r ∈ q.rs, some r.b ≠ v.ownBlock) → Grid w' base q.v q.rs := fun q hq q1 q2 => hq.kept h3 q1 q2
  refine ⟨_, c', w', fun ty => ha, ⟨h2', fun q hq => ?_⟩, h3⟩
  rcases List.mem_append.1 hq with hq | hq
  · have h6 := h1.el q hq
    have h7 := h.el q hq
    exact ⟨kg q h6.1 h6.2.1 h6.2.2, fun k hk => hv' k (own_lt h7.1.own k hk) (h6.2.1 k hk), fun r hr => hv' r.b (h7.1.lt r hr) (h6.2.2 r hr)⟩
  rw [List.mem_singleton] at hq
  subst hq
  exact ⟨kg q hg1 hne hnr, fun k hk => hv' k (hlt k hk) (hne k hk), fun r hr => hv' r.b (hg.lt r hr) (hnr r hr)⟩
end
/-! ### take, line by line -/
theorem lines_put (rs : List Ln) (i k : Nat) (x : Int) : lines (putL rs i k x) = (lines rs).set i (((lines rs).getD i []).set k x) := by
  unfold putL lines
  cases h : rs[i]? with
  | some r =>
    obtain ⟨hi, rfl⟩ := List.getElem?_eq_some_iff.1 h
    simp [List.map_set, List.getD_eq_getElem?_getD, hi]
  | none => ?_
  have hi : rs.length ≤ i := List.getElem?_eq_none_iff.1 h
  rw [List.set_eq_of_length_le (by simpa using hi)]
theorem atL_lines (rs : List Ln) (i k : Nat) : atL rs i k = ((lines rs).getD i []).getD k 0 := by
  unfold atL lines
  cases h : rs[i]? with
  | some r =>
    obtain ⟨hi, rfl⟩ := List.getElem?_eq_some_iff.1 h
    simp [List.getD_eq_getElem?_getD, hi]
  | none => ?_
  have hi : rs.length ≤ i := List.getElem?_eq_none_iff.1 h
  simp [List.getD_eq_getElem?_getD, hi]
theorem takeK_lines (wt : Int) (i : Nat) : ∀ (ns : List Int) (k : Nat) (rs : List Ln), i < rs.length → k + ns.length ≤ ((lines rs).getD i []).length →
    lines (takeK wt i k ns rs) = (lines rs).set i (((lines rs).getD i []).take k ++ List.zipWith (fun x n => wrap64 (x - wrap64 (wt * n))) (((lines rs).getD i []).drop k) ns ++ ((lines rs).getD i []).drop (k + ns.length))
  | [], k, rs, hi, hk => by
    have hl : i < (lines rs).length := by rw [lines_len]; exact hi
    simp only [takeK, List.zipWith_nil_right, List.append_nil, List.length_nil, Nat.add_zero, List.take_append_drop]
    rw [List.getD_eq_getElem?_getD, List.getElem?_eq_getElem hl, Option.getD_some, List.set_getElem_self]
  | n :: ns, k, rs, hi, hk => by
    have hl : i < (lines rs).length := by rw [lines_len]; exact hi
    obtain ⟨a, ha⟩ : ∃ a, (lines rs).getD i [] = a := ⟨_, rfl⟩
    simp only [List.length_cons] at hk
    rw [ha] at hk
    have hp := lines_put rs i k (wrap64 (atL rs i k - wrap64 (wt * n)))
    rw [atL_lines, ha] at hp
    have hpi : (lines (putL rs i k (wrap64 (a.getD k 0 - wrap64 (wt * n))))).getD i [] = a.set k (wrap64 (a.getD k 0 - wrap64 (wt * n))) := by
      rw [hp, List.getD_eq_getElem?_getD, List.getElem?_set_self hl, Option.getD_some]
    have ih := takeK_lines wt i ns (k + 1) (putL rs i k (wrap64 (a.getD k 0 - wrap64 (wt * n)))) (by
      have := dims_len (dims_put rs i k (wrap64 (a.getD k 0 - wrap64 (wt * n))))
      omega) (by rw [hpi, List.length_set]; omega)
    rw [takeK, atL_lines, ha, ih, hpi, hp, List.set_set]
    congr 1
    have hka : k < a.length := by omega
    rw [List.getD_eq_getElem?_getD, List.getElem?_eq_getElem hka, Option.getD_some]
    rw [List.drop_eq_getElem_cons hka, List.zipWith_cons_cons]
    rw [List.take_add_one, List.take_set_of_le (Nat.le_refl k), List.getElem?_set_self (by omega), List.drop_set_of_lt (by omega)]
    simp only [Option.toList_some, List.append_assoc, List.singleton_append, List.cons_append, List.length_cons]
    rw [List.drop_set_of_lt (by omega)]
    rw [show k + 1 + ns.length = k + (ns.length + 1) by omega, List.nil_append]
def takeRow (wt : Int) (a b : List Int) : List Int := List.zipWith (fun x n => wrap64 (x - wrap64 (wt * n))) a b
theorem takeK_whole (wt : Int) (i : Nat) (ns : List Int) (rs : List Ln) (hi : i < rs.length) (hk : ns.length = ((lines rs).getD i []).length) : lines (takeK wt i 0 ns rs) = (lines rs).set i (takeRow wt ((lines rs).getD i []) ns) := by
  rw [takeK_lines wt i ns 0 rs hi (by omega)]
  simp [hk, takeRow]
theorem takeI_lines (wt : Int) : ∀ (p : List (List Int)) (i : Nat) (rs : List Ln), i + p.length ≤ rs.length → (∀ j, j < p.length → (p.getD j []).length = ((lines rs).getD (i + j) []).length) →
    lines (takeI wt i p rs) = (lines rs).take i ++ List.zipWith (takeRow wt) ((lines rs).drop i) p ++ (lines rs).drop (i + p.length)
  | [], i, rs, hi, hp => by simp [takeI]
  | q :: p, i, rs, hi, hp => by
    simp only [List.length_cons] at hi
    have h0 := hp 0 (by simp)
    rw [List.getD_cons_zero, Nat.add_zero] at h0
    have hl : i < (lines rs).length := by rw [lines_len]; omega
    have h1 := takeK_whole wt i q rs (by omega) h0
    have hd := dims_len (dims_takeK wt i q 0 rs)
    obtain ⟨a, ha⟩ : ∃ a, (lines rs).getD i [] = a := ⟨_, rfl⟩
    rw [ha] at h1
    have ih := takeI_lines wt p (i + 1) (takeK wt i 0 q rs) (by omega) (fun j hj => by
      have h2 := hp (j + 1) (by simp; omega)
      rw [List.getD_cons_succ] at h2
      rw [h2, h1]
      simp only [List.getD_eq_getElem?_getD]
      rw [List.getElem?_set_ne (by omega), show i + (j + 1) = i + 1 + j by omega])
    rw [takeI, ih, h1]
    rw [List.getD_eq_getElem?_getD, List.getElem?_eq_getElem hl, Option.getD_some] at ha
    rw [List.drop_eq_getElem_cons hl, List.zipWith_cons_cons, ha]
    rw [List.take_add_one, List.take_set_of_le (Nat.le_refl i), List.getElem?_set_self (by omega), List.drop_set_of_lt (by omega), List.drop_set_of_lt (by omega)]
    simp only [Option.toList_some, List.append_assoc, List.singleton_append, List.cons_append, List.length_cons]
    rw [show i + 1 + p.length = i + (p.length + 1) by omega]
    try rw [List.nil_append]
theorem takeI_takeL (wt : Int) (p : List (List Int)) (rs : List Ln) (hl : p.length = rs.length) (hp : ∀ j, j < p.length → (p.getD j []).length = ((lines rs).getD j []).length) : lines (takeI wt 0 p rs) = takeL wt (lines rs) p := by
  rw [takeI_lines wt p 0 rs (by omega) (fun j hj => by rw [Nat.zero_add]; exact hp j hj)]
  have : (lines rs).length = p.length := by rw [lines_len]; omega
  simp [this.symm, takeL, takeRow]
  rfl
end Go.Proofs.Ytcgdbjojjpoegaa.P

namespace Go.Proofs.Ytcgdbjojjpoegaa.P
open Go.RowKit Go.Shelf Go.Proofs.YtcgdbjojjpoegaaW.PrintWords Go.Proofs.YtcgdbjojjpoegaaW.PrintLast Go.Proofs.YtcgdbjojjpoegaaW.PrintMore Go.Proofs.YtcgdbjojjpoegaaM Go.Proofs.YtcgdbjojjpoegaaR
set_option linter.unusedVariables false
set_option linter.unusedSimpArgs false
/-- Between the rounds of Mix. -/
structure MI (w W : World) (B1 base1 : Nat) (den : Int) (vl : Value) (bA1 cA1 : Nat) (am0 : List Am) (g0 N b7 : Nat) (A7 : Option Addr) (n7 c7 : Nat) (ld : Int) (rs : List Ln) (vo : Value) (ps : List Pt) : Prop where
  x : Blk W w.heap.size 39 #[.int .i64 den, vl]
  bk : Bk W B1 base1 den vl bA1 cA1 am0 zero14
  bb : Blk W b7 39 #[.int .i64 ld, .slice A7 n7 c7]
  gr : Grid W g0 (.slice A7 n7 c7) rs
  ne : (∀ r ∈ rs, r.b ≠ b7 ∧ r.b < N) ∧ ∀ k, (Value.slice A7 n7 c7).ownBlock = some k → k ≠ b7 ∧ k < N
  lo : w.heap.size < g0 ∧ B1 < g0 ∧ bA1 < g0 ∧ g0 ≤ b7 ∧ b7 < N
  out : OutR W N vo ps
  fr : Below w.heap.size w W
  sz : N ≤ W.heap.size
section
variable {w W W' : World} {B1 base1 : Nat} {den : Int} {vl : Value} {bA1 cA1 : Nat} {am0 : List Am} {g0 N b7 : Nat} {A7 : Option Addr} {n7 c7 : Nat} {ld : Int} {rs : List Ln} {vo : Value} {ps : List Pt}
theorem MI.below (h : MI w W B1 base1 den vl bA1 cA1 am0 g0 N b7 A7 n7 c7 ld rs vo ps) (hb : Below W.heap.size W W') : MI w W' B1 base1 den vl bA1 cA1 am0 g0 N b7 A7 n7 c7 ld rs vo ps :=
  ⟨h.x.below hb h.x.lt, h.bk.below hb, h.bb.below hb h.bb.lt, h.gr.below hb, h.ne, h.lo, h.out.step (fun k _ hk => hb.block k hk), below_then h.fr h.fr.size hb, Nat.le_trans h.sz hb.size⟩
theorem MI.setDen (h : MI w W B1 base1 den vl bA1 cA1 am0 g0 N b7 A7 n7 c7 ld rs vo ps) (x : Int) : MI w (W.setCell ⟨b7, 0, none⟩ (.int .i64 x)) B1 base1 den vl bA1 cA1 am0 g0 N b7 A7 n7 c7 x rs vo ps := by
  have hg := grown_set W b7 0 (.int .i64 x)
  have hlo := h.lo
  refine ⟨h.x.kept hg (by simp; omega), h.bk.kept hg (by simp; omega) (by simp; omega), ?_, h.gr.kept hg (fun k hk e => (h.ne.2 k hk).1 (by injection e)) (fun r hr e => (h.ne.1 r hr).1 (by injection e)), h.ne, h.lo, h.out.step (fun k hk hk2 => hg.block k hk2 (by simp; omega)), below_grown h.fr hg (fun r e => by injection e with e; omega), Nat.le_trans h.sz hg.size⟩
  have := h.bb.set 0 (.int .i64 x)
  simpa using this
theorem MI.took {rs' : List Ln} (h : MI w W B1 base1 den vl bA1 cA1 am0 g0 N b7 A7 n7 c7 ld rs vo ps) (hk : KeepG rs W W') (hg : Grid W' g0 (.slice A7 n7 c7) rs') (hd : dims rs' = dims rs) : MI w W' B1 base1 den vl bA1 cA1 am0 g0 N b7 A7 n7 c7 ld rs' vo ps := by
  have hlo := h.lo
  have hm : ∀ k, k < g0 ∨ k = b7 ∨ N ≤ k → k < W.heap.size → W'.heap[k]? = W.heap[k]? := fun k h1 h2 => hk.block k h2 (fun r hr e => by
    have h3 := (h.gr.rows r hr).1
    have h4 := h.ne.1 r hr
    omega)
  have hin : ∀ r ∈ rs', ∃ r2 ∈ rs, r2.b = r.b := fun r hr => by
    obtain ⟨j, hj, rfl⟩ := List.getElem_of_mem hr
    have hj' : j < rs.length := by rw [← dims_len hd]; exact hj
    exact ⟨rs[j], List.getElem_mem hj', (dims_at hd j hj hj').1.symm⟩
  refine ⟨(hm _ (by omega) h.x.lt).trans h.x, ⟨⟨(hm _ (by omega) h.bk.at_.lt).trans h.bk.at_.blk, own_move h.bk.at_.own (fun q hq => ?_), h.bk.at_.len⟩, h.bk.lt⟩, (hm _ (by omega) h.bb.lt).trans h.bb, hg, ⟨fun r hr => ?_, h.ne.2⟩, h.lo, h.out.step (fun k h1 h2 => hm k (by omega) h2), ?_, Nat.le_trans h.sz hk.size⟩
  · have : q = bA1 := by simpa [Value.ownBlock] using hq.symm
    subst this
    exact hm _ (by omega) h.bk.base_le.2
  · obtain ⟨r2, h1, h2⟩ := hin r hr
    rw [← h2]
    exact h.ne.1 r2 h1
  exact ⟨hk.os.trans h.fr.os, hk.tape.trans h.fr.tape, hk.output.trans h.fr.output, Nat.le_trans h.fr.size hk.size, fun k hk2 => (hm k (by omega) (Nat.lt_of_lt_of_le hk2 h.fr.size)).trans (h.fr.block k hk2)⟩
theorem MI.pushed {o : Obj} {vo' : Value} {ps' : List Pt} (h : MI w W B1 base1 den vl bA1 cA1 am0 g0 N b7 A7 n7 c7 ld rs vo ps) (hg : (W.alloc o).grownBy W' vo.ownBlock) (ho : OutR W' N vo' ps') : MI w W' B1 base1 den vl bA1 cA1 am0 g0 N b7 A7 n7 c7 ld rs vo' ps' := by
  have h1 := h.below (box1 W o)
  have hlo := h.lo
  have hb : ∀ k, vo.ownBlock = some k → N ≤ k := fun k hk => own_base h.out.own k hk
  have ne : ∀ k, k < N → some k ≠ vo.ownBlock := fun k hk e => by have := hb k e.symm; omega
  have hbl := h.bk.lt
  exact ⟨h1.x.kept hg (ne _ (by omega)), h1.bk.kept hg (ne _ (by omega)) (ne _ (by omega)), h1.bb.kept hg (ne _ (by omega)), h1.gr.kept hg (fun k hk => ne _ (h.ne.2 k hk).2) (fun r hr => ne _ (h.ne.1 r hr).2), h.ne, h.lo, ho, below_grown h1.fr hg (fun r e => by have := hb r e; omega), Nat.le_trans h1.sz hg.size⟩
end
/-- Within a round of Mix. -/
structure QI (wr W : World) (b8 : Nat) (wt : Int) (AP : Option Addr) (nP cP : Nat) (rsP : List Ln) (B9 base9 : Nat) (ld : Int) (v9 : Value) (bA9 cA9 : Nat) (am1 : List Am) (B10 base10 : Nat) (v10 : Value) (bA10 cA10 : Nat) (am2 : List Am) : Prop where
  p8 : Blk W b8 71 #[.int .i64 wt, .slice AP nP cP]
  gp : Grid W wr.heap.size (.slice AP nP cP) rsP
  ne : (∀ r ∈ rsP, r.b ≠ b8) ∧ ∀ k, (Value.slice AP nP cP).ownBlock = some k → k ≠ b8
  k9 : Bk W B9 base9 ld v9 bA9 cA9 am1 zero14
  k10 : Bk W B10 base10 1 v10 bA10 cA10 am2 zero14
  fr : Below wr.heap.size wr W
  lo : wr.heap.size ≤ b8 ∧ b8 < B9 ∧ b8 < B10
section
variable {wr W W' : World} {b8 : Nat} {wt : Int} {AP : Option Addr} {nP cP : Nat} {rsP : List Ln} {B9 base9 : Nat} {ld : Int} {v9 : Value} {bA9 cA9 : Nat} {am1 : List Am} {B10 base10 : Nat} {v10 : Value} {bA10 cA10 : Nat} {am2 : List Am}
theorem QI.below (h : QI wr W b8 wt AP nP cP rsP B9 base9 ld v9 bA9 cA9 am1 B10 base10 v10 bA10 cA10 am2) (hb : Below W.heap.size W W') : QI wr W' b8 wt AP nP cP rsP B9 base9 ld v9 bA9 cA9 am1 B10 base10 v10 bA10 cA10 am2 :=
  ⟨h.p8.below hb h.p8.lt, h.gp.below hb, h.ne, h.k9.below hb, h.k10.below hb, below_then h.fr h.fr.size hb, h.lo⟩
theorem QI.setWt (h : QI wr W b8 wt AP nP cP rsP B9 base9 ld v9 bA9 cA9 am1 B10 base10 v10 bA10 cA10 am2) (x : Int) : QI wr (W.setCell ⟨b8, 0, none⟩ (.int .i64 x)) b8 x AP nP cP rsP B9 base9 ld v9 bA9 cA9 am1 B10 base10 v10 bA10 cA10 am2 := by
  have hg := grown_set W b8 0 (.int .i64 x)
  have hlo := h.lo
  have h9 := h.k9.lt
  have h10 := h.k10.lt
  have h9a := h.k9.base_le
  have h10a := h.k10.base_le
  refine ⟨?_, h.gp.kept hg (fun k hk e => h.ne.2 k hk (by injection e)) (fun r hr e => h.ne.1 r hr (by injection e)), h.ne, h.k9.kept hg (by simp; omega) (by simp; omega), h.k10.kept hg (by simp; omega) (by simp; omega), below_grown h.fr hg (fun r e => by injection e with e; omega), h.lo⟩
  have := h.p8.set 0 (.int .i64 x)
  simpa using this
end
theorem takeI_dims (wt : Int) : ∀ (p : List (List Int)) (i : Nat) (rs : List Ln), dims (takeI wt i p rs) = dims rs
  | [], i, rs => rfl
  | q :: p, i, rs => by rw [takeI, takeI_dims wt p, dims_takeK]
theorem coinsL_tab {den : Int} {am : List Am} {m n : Nat} (hn0 : 0 < n) (hn6 : n ≤ 6) (hm0 : 0 < m) (hm6 : m ≤ 6) : Tab (coinsL den am m n) ∧ (rd_L2 (coinsL den am m n) 0).length = m ∧ (coinsL den am m n).length = n := by
  have h1 : (coinsL den am m n).length = n := coinsL_len den am m n
  have h2 : ∀ x ∈ coinsL den am m n, x.length = m := by
    intro x hx
    unfold coinsL at hx
    rw [List.mem_map] at hx
    obtain ⟨j, _, rfl⟩ := hx
    exact coinsRow_len den am m j m
  have h3 : (rd_L2 (coinsL den am m n) 0).length = m := by
    have := rd_L2_nat (coinsL den am m n) 0 (by omega)
    rw [show ((0 : Nat) : Int) = 0 from rfl] at this
    rw [this]
    exact h2 _ (List.getElem_mem _)
  exact ⟨⟨(by omega), (by omega), (by omega), (by omega), fun x hx => by rw [h3]; exact h2 x hx⟩, h3, h1⟩
end Go.Proofs.Ytcgdbjojjpoegaa.P

namespace Go.Proofs.Ytcgdbjojjpoegaa.P
open Go.RowKit Go.Shelf Go.Proofs.YtcgdbjojjpoegaaW.PrintWords Go.Proofs.YtcgdbjojjpoegaaW.PrintLast Go.Proofs.YtcgdbjojjpoegaaW.PrintMore Go.Proofs.YtcgdbjojjpoegaaM Go.Proofs.YtcgdbjojjpoegaaR
set_option linter.unusedVariables false
set_option linter.unusedSimpArgs false
def mix49.T6 : Bool × List (List Nat × List Nat) := (true, [([], []), ([0], [0]), ([], []), ([2], [2]), ([3], [3]), ([1, 4], [1, 4]), ([], []), ([6, 5, 4, 0, 1, 2, 3, 4, 5, 6], [5, 6])])
def mix49.B6 : List Nat := [0, 1, 0, 4, 12, 31, 0, 127]
theorem mix49.tab6 : rtab .any (opsOf Try.f49 6) = mix49.T6 := by kernel_rfl
theorem mix49.bits6 : waitsOk mix49.T6.2 mix49.B6 = true := by kernel_rfl
def mix49.T8 : Bool × List (List Nat × List Nat) := (true, [([], []), ([0], [0]), ([], []), ([2], [2]), ([1, 3], [1, 3]), ([], []), ([5, 4, 3, 0, 1, 2, 3, 4, 5], [4, 5])])
def mix49.B8 : List Nat := [0, 1, 0, 4, 15, 0, 63]
theorem mix49.tab8 : rtab .any (opsOf Try.f49 8) = mix49.T8 := by kernel_rfl
theorem mix49.bits8 : waitsOk mix49.T8.2 mix49.B8 = true := by kernel_rfl
def mix49.T9 : Bool × List (List Nat × List Nat) := (true, [([], []), ([0], [0]), ([], []), ([2], [2]), ([3], [3]), ([4, 1], [4]), ([1, 5, 0, 1], [1]), ([5, 6, 0, 1, 2, 3, 4, 5, 6], [5])])
def mix49.B9 : List Nat := [0, 1, 0, 4, 12, 31, 63, 127]
theorem mix49.tab9 : rtab .any (opsOf Try.f49 9) = mix49.T9 := by kernel_rfl
theorem mix49.bits9 : waitsOk mix49.T9.2 mix49.B9 = true := by kernel_rfl
set_option maxHeartbeats 3000000 in
set_option maxRecDepth 100000 in
theorem pole_Mix.calls (den : Int) (A : Option Addr) (c : Nat) (l : List (List Int)) (r1 : List S71) (r2 : Int) (w : World) (hr : Kd.C (Kd.slice 2 (Kd.int .i64)) w A l.length l) (hcl : l.length ≤ c) (h : pole_Mix.f den l = some (r1, r2)) :
    Calls Try.prog 49 #[.agg #[.int .i64 den, .slice A l.length c]] w fun e w' => ∃ v0_ : Value, e = .returned (.tuple #[v0_, .int .i64 r2]) ∧ Kd.R k71 71 w' w.heap.size (fun _ => True) v0_ r1 ∧ Below w.heap.size w w' := by
  have HR := Lib.hid hr
  have HC := Lib.hid hcl
  have HH := Lib.hid h
  have BK := Lib.hid (Blk.new w #[.int .i64 den, .slice A l.length c] 39)
  have HB := Lib.hid (box1 w (.cells #[.int .i64 den, .slice A l.length c] 39))
  clear hr hcl h
  go_enter Try.func49, Try.ntmps49
  go_upto_region 1 with (fail)
  generalize w.alloc (.cells #[.int .i64 den, .slice A l.length c] 39) = W0 at *
  have y0 : W0.cell? ⟨w.heap.size, 0, none⟩ = some (.int .i64 den) := BK.out.cell 0
  have y1 : W0.cell? ⟨w.heap.size, 1, none⟩ = some (.slice A l.length c) := BK.out.cell 1
  have HCT := Lib.hid (checkTable_calls den A c l W0 (Kd.C_below HR.out HB.out) HC.out)
  obtain ⟨E, eE⟩ : ∃ E, tableE den l = E := ⟨_, rfl⟩
  rw [eE] at HCT
  go_upto_region 2 with (go_at_call 28; refine (HCT.out).mono ?_; rintro e W1 ⟨rfl, hb1⟩; have HB1 := Lib.hid hb1; clear hb1)
  have HB1w := Lib.hid (below_then HB.out HB.out.size HB1.out)
  have BK1 := Lib.hid (BK.out.below HB1.out BK.out.lt)
  clear y0 y1 HB BK HCT
  by_cases q1 : E = 0
  rotate_left
  · have t1 : (E != 0) = true := by simp [q1]
    have F1 := Lib.hid (show ([], E) = (r1, r2) by
      have h := HH.out
      unfold pole_Mix.f at h
      rw [eE, if_pos q1] at h
      injection h)
    clear q1 eE
    go_wp2
    go_ret2
    rw [← (Prod.mk.inj F1.out).1, ← (Prod.mk.inj F1.out).2]
    exact ⟨_, rfl, Kd.R_nil _ _ _ _ _, HB1w.out⟩
  have t1 : (E != 0) = false := by simp [q1]
  have HV := Lib.hid (Valid.of (eE.trans q1))
  obtain ⟨out, hmx, hro⟩ : ∃ out, mixR den (bookAm l) (rd_L2 l 0).length l.length 60 den l [] = some out ∧ (out, (0 : Int)) = (r1, r2) := by
    have h := HH.out
    unfold pole_Mix.f at h
    rw [eE, if_neg (by rw [q1]; simp)] at h
    cases hm : mixR den (bookAm l) (rd_L2 l 0).length l.length 60 den l [] with
    | none => rw [hm] at h; cases h
    | some out => rw [hm, Option.bind_some] at h; injection h with h; exact ⟨out, rfl, h⟩
  have HMX := Lib.hid hmx
  have HRO := Lib.hid hro
  clear q1 eE hmx hro HH
  have y0 : W1.cell? ⟨w.heap.size, 0, none⟩ = some (.int .i64 den) := BK1.out.cell 0
  have y1 : W1.cell? ⟨w.heap.size, 1, none⟩ = some (.slice A l.length c) := BK1.out.cell 1
  obtain ⟨m, em⟩ : ∃ m, (rd_L2 l 0).length = m := ⟨_, rfl⟩
  have HNB := Lib.hid (newBook_calls den A c l W1 (Kd.C_below HR.out HB1w.out) HC.out HV.out.n0 HV.out.n6 HV.out.m6 HV.out.eq)
  rw [em] at HMX
  go_upto_region 6 with (go_at_call 67; refine (HNB.out).mono ?_; rintro e W2 ⟨B1, base1, bA1, cA1, rfl, hk1, hle1, hlt1, hb1⟩; have HK1 := Lib.hid (show Bk W2 B1 base1 den (.slice A l.length c) bA1 cA1 (bookAm l) zero14 from ⟨hk1, hlt1⟩); have HB2 := Lib.hid hb1; clear hk1 hle1 hlt1 hb1)
  have HB2w := Lib.hid (below_then HB1w.out HB1w.out.size HB2.out)
  have BK2 := Lib.hid (BK1.out.below HB2.out BK1.out.lt)
  clear y0 y1 HNB HB1w BK1 HB1
  obtain ⟨Wd, ed⟩ : ∃ Wd, W2.drew = Wd := ⟨_, rfl⟩
  have hd0 : Below W2.heap.size W2 Wd := by rw [← ed]; exact below_drew (Below.refl _ _)
  have HKd := Lib.hid (HK1.out.below hd0)
  have HBd := Lib.hid (below_then HB2w.out HB2w.out.size hd0)
  have BKd := Lib.hid (BK2.out.below hd0 BK2.out.lt)
  clear hd0 HK1 HB2w BK2 HB2
  have HS := Lib.hid (fun (W : World) (h : Below Wd.heap.size Wd W) => show W.cell? ⟨w.heap.size, 0, none⟩ = some (.int .i64 den) ∧ W.cell? ⟨w.heap.size, 1, none⟩ = some (.slice A l.length c) from
    ⟨(BKd.out.below h BKd.out.lt).cell 0, (BKd.out.below h BKd.out.lt).cell 1⟩)
  have HCP := Lib.hid (fun (W : World) (h : Below Wd.heap.size Wd W) => copied_calls A c l W (Kd.C_below HR.out (below_then HBd.out HBd.out.size h)) (by have := HV.out.n6; omega) (fun x hx => by rw [HV.out.eq x hx]; have := HV.out.m0; have := HV.out.m6; omega))
  refine sA_ 8 (fun W => W.cell? ⟨w.heap.size, 0, none⟩ = some (.int .i64 den) ∧ W.cell? ⟨w.heap.size, 1, none⟩ = some (.slice A l.length c)) [7] mix49.tab6 mix49.bits6 (by rw [ed]; exact HS.out _ (Below.refl _ _)) (fun hHeld HT_ HW_ => ?_)
  rw [ed] at hHeld ⊢
  refine pA_ 0 (some 22) 8 1 ?_
  refine tB_ 1 (some 23) 8 3 ?_
  refine pA_ 2 (some 24) 8 7 ?_
  refine tB_ 3 (some 25) 8 15 ?_
  refine join_ (σ := Option Addr × Nat × Nat × List Ln) 1 #[true, true, true, true, true, true, true, false] (fun s_ => [(26, .slice s_.1 l.length s_.2.1), (27, .agg #[.int .i64 den, .slice s_.1 l.length s_.2.1]), (7, .pointer (some ⟨s_.2.2.1, 0, none⟩))])
    (fun s_ w' => lines s_.2.2.2 = l ∧ Grid w' Wd.heap.size (.slice s_.1 l.length s_.2.1) s_.2.2.2 ∧ Blk w' s_.2.2.1 39 #[.int .i64 0, .slice none 0 0] ∧ Wd.heap.size ≤ s_.2.2.1 ∧ ((∀ r ∈ s_.2.2.2, r.b ≠ s_.2.2.1) ∧ ∀ k, (Value.slice s_.1 l.length s_.2.1).ownBlock = some k → k ≠ s_.2.2.1) ∧ Below Wd.heap.size Wd w') ?_ ?_
  rotate_left
  · intro hCont
    refine two_ (i := 4) (j := 6) (Ni := some 26) (Nj := some 7) #[true, true, true, true, true, false, false, false] #[true, true, true, true, false, false, true, false] rfl rfl rfl rfl (two_of HT_.out (by kernel_rfl)) (by decide) (by decide) (fun K hK => ?_) (fun K hK => ?_)
    · refine goes_ Try.func75 (by kernel_rfl) rfl #[.slice A l.length c] (by rfl) rfl rfl b11_ ?_
      refine (HCP.out _ (Below.refl _ _)).mono ?_
      rintro e W3 ⟨A7, c7, rs, rfl, hl3, hg3, hb3⟩
      refine ⟨_, rfl, ?_⟩
      refine hK.out _ _ (HS.out _ hb3) (fun hHeld => ?_)
      clear hK K
      refine nA_ (some 26) ?_
      refine pA_ 5 (some 27) 8 63 ?_
      refine oA_ 6 (some 7) 8 127 (fun K hK => ?_)
      have hb4 := box1 W3 (.cells #[.int .i64 0, .slice none 0 0] 39)
      refine event_step (by rfl) (w1 := W3.alloc (.cells #[.int .i64 0, .slice none 0 0] 39)) (v := .pointer (some ⟨W3.heap.size, 0, none⟩)) (by go_simp) ?_
      refine hK.out _ _ (HS.out _ (below_then hb3 hb3.size hb4)) (fun hHeld2 => ?_)
      clear hK K
      refine nA_ (some 7) ?_
      exact norm_ b28_ (hCont (A7, c7, W3.heap.size, rs) _ ⟨hl3, hg3.below hb4, Blk.new W3 _ 39, hb3.size, ⟨fun r hr => by have := hg3.lt r hr; show r.b ≠ W3.heap.size; omega, fun k hk => by have := own_lt hg3.own k hk; show k ≠ W3.heap.size; omega⟩, below_then hb3 hb3.size hb4⟩)
    have hb3 := box1 Wd (.cells #[.int .i64 0, .slice none 0 0] 39)
    refine event_step (by rfl) (w1 := Wd.alloc (.cells #[.int .i64 0, .slice none 0 0] 39)) (v := .pointer (some ⟨Wd.heap.size, 0, none⟩)) (by go_simp) ?_
    refine hK.out _ _ (HS.out _ hb3) (fun hHeld => ?_)
    clear hK K
    refine nA_ (some 7) ?_
    refine oA_ 4 (some 26) 8 95 (fun K hK => ?_)
    refine goes_ Try.func75 (by kernel_rfl) rfl #[.slice A l.length c] (by rfl) rfl rfl b11_ ?_
    refine (HCP.out _ hb3).mono ?_
    rintro e W3 ⟨A7, c7, rs, rfl, hl3, hg3, hb4⟩
    refine ⟨_, rfl, ?_⟩
    have hsa : (Wd.alloc (.cells #[.int .i64 0, .slice none 0 0] 39)).heap.size = Wd.heap.size + 1 := by simp
    refine hK.out _ _ (HS.out _ (below_then hb3 hb3.size hb4)) (fun hHeld2 => ?_)
    clear hK K
    refine nA_ (some 26) ?_
    refine pA_ 5 (some 27) 8 127 ?_
    exact norm_ b28_ (hCont (A7, c7, Wd.heap.size, rs) _ ⟨hl3, hg3.lower (by omega), (Blk.new Wd #[.int .i64 0, .slice none 0 0] 39).below hb4 (by omega), Nat.le_refl _, ⟨fun r hr => by have := (hg3.rows r hr).1; show r.b ≠ Wd.heap.size; omega, fun k hk => by have := own_base hg3.own k hk; show k ≠ Wd.heap.size; omega⟩, below_then hb3 hb3.size hb4⟩)
  rintro ⟨A7, c7, b7, rs⟩ W3 ⟨hl3, hg3, hbk7, hb7, hne7, hb3⟩
  replace hl3 : lines rs = l := hl3
  replace hg3 : Grid W3 Wd.heap.size (.slice A7 l.length c7) rs := hg3
  replace hbk7 : Blk W3 b7 39 #[.int .i64 0, .slice none 0 0] := hbk7
  replace hb7 : Wd.heap.size ≤ b7 := hb7
  replace hne7 : (∀ r ∈ rs, r.b ≠ b7) ∧ ∀ k, (Value.slice A7 l.length c7).ownBlock = some k → k ≠ b7 := hne7
  refine norm_ (a' := ?_) ?_ ?_
  rotate_left
  · simp only [putAll, Act.put, List.setIfInBounds_toArray, List.set_cons_zero, List.set_cons_succ]
    rfl
  have z0 : W3.cell? ⟨b7, 0, none⟩ = some (.int .i64 0) := hbk7.cell 0
  have z1 : W3.cell? ⟨b7, 1, none⟩ = some (.slice none 0 0) := hbk7.cell 1
  have f0 := hbk7.fz 0
  have f1 := hbk7.fz 1
  refine oL_ 7 none 8 255 (fun K hK => ?_)
  refine skip_ (w1 := (W3.setCell ⟨b7, 0, none⟩ (.int .i64 den)).setCell ⟨b7, 1, none⟩ (.slice A7 l.length c7)) (by rfl) rfl ?_ ?_
  · go_simp
  refine hK.out _ _ ?_
  clear hK K
  refine dA_ ?_
  have hg1 := grown_set W3 b7 0 (.int .i64 den)
  have hg2 := grown_set (W3.setCell ⟨b7, 0, none⟩ (.int .i64 den)) b7 1 (.slice A7 l.length c7)
  have hg12 := hg1.trans hg2
  have hs12 : ((W3.setCell ⟨b7, 0, none⟩ (.int .i64 den)).setCell ⟨b7, 1, none⟩ (.slice A7 l.length c7)).heap.size = W3.heap.size := by simp
  have hBKl := BKd.out.lt
  have hKl := HKd.out.base_le
  have hKb := HKd.out.lt
  have hb7l := hbk7.lt
  have HM := Lib.hid (show MI w ((W3.setCell ⟨b7, 0, none⟩ (.int .i64 den)).setCell ⟨b7, 1, none⟩ (.slice A7 l.length c7)) B1 base1 den (.slice A l.length c) bA1 cA1 (bookAm l) Wd.heap.size W3.heap.size b7 A7 l.length c7 den rs (.slice none 0 0) [] from
    ⟨(BKd.out.below hb3 hBKl).kept hg12 (by simp; omega), (HKd.out.below hb3).kept hg12 (by simp; omega) (by simp; omega), by
      have h1 := (hbk7.set 0 (.int .i64 den)).set 1 (.slice A7 l.length c7)
      simpa using h1, hg3.kept hg12 (fun k hk e => hne7.2 k hk (by injection e)) (fun r hr e => hne7.1 r hr (by injection e)), ⟨fun r hr => ⟨hne7.1 r hr, hg3.lt r hr⟩, fun k hk => ⟨hne7.2 k hk, own_lt hg3.own k hk⟩⟩, ⟨hBKl, (by omega), (by omega), hb7, hb7l⟩, OutR.nil _ _, below_grown (below_then HBd.out HBd.out.size hb3) hg12 (fun r e => by injection e with e; have := HBd.out.size; omega), by omega⟩)
  have HLS := Lib.hid hl3
  clear hHeld HT_ HW_ z0 z1 f0 f1 hg1 hg2 hg12 hs12 HS HCP HKd HBd BKd ed hl3 hg3 hbk7 hne7 hb3
  generalize (W3.setCell ⟨b7, 0, none⟩ (.int .i64 den)).setCell ⟨b7, 1, none⟩ (.slice A7 l.length c7) = W4 at *
  generalize W3.heap.size = N at *
  generalize Wd.heap.size = g0 at *
  clear hb7 hBKl hKl hKb hb7l
  go_wp2_with fail
  go_loopg [5] 60 (fun kq v5 w' => ∃ (ld : Int) (left : List (List Int)) (rs' : List Ln) (vo : Value) (ps : List Pt), v5 = vo ∧ Aside0 (MI w w' B1 base1 den (.slice A l.length c) bA1 cA1 (bookAm l) g0 N b7 A7 l.length c7 ld rs' vo ps) ∧ Aside0 (lines rs' = left) ∧ Aside0 (mixR den (bookAm l) m l.length kq ld left (ps.map Pt.s) = some out) ∧ Aside0 (left.length = l.length ∧ ∀ x ∈ left, x.length = m) ∧ Aside0 (ps.length + kq ≤ 60))
  case atStart => exact ⟨den, l, rs, .slice none 0 0, [], rfl, ⟨HM.out⟩, ⟨HLS.out⟩, ⟨HMX.out⟩, ⟨rfl, fun x hx => by rw [HV.out.eq x hx, em]⟩, ⟨(by simp)⟩⟩
  clear HM HLS HMX
  obtain ⟨ld, left, rs', vo, ps, rfl, HM, HLS, HMX, HLL, HPL⟩ := hrel
  have c0 : wr.cell? ⟨b7, 0, none⟩ = some (.int .i64 ld) := HM.out.bb.cell 0
  by_cases q2 : 0 < ld
  rotate_left
  · have t2 : decide (ld > 0) = false := decide_eq_false q2
    have t3 : decide (0 < ld) = false := decide_eq_false q2
    have HE := Lib.hid (show ps.map Pt.s = out by
      have h := HMX.out
      cases gk <;> (rw [mixR, if_neg q2] at h; injection h))
    go_wp2
    go_ret2
    rw [← (Prod.mk.inj HRO.out).1, ← (Prod.mk.inj HRO.out).2, ← HE.out]
    have hlo := HM.out.lo
    exact ⟨_, rfl, Kd.R_lower HM.out.out.R (by omega), HM.out.fr⟩
  have t2 : decide (ld > 0) = true := decide_eq_true q2
  have t3 : decide (0 < ld) = true := decide_eq_true q2
  obtain ⟨k1, am2, hgk, hs2, hm2⟩ : ∃ k1 am2, gk = k1 + 1 ∧ settleR ld 100 (bookAm left) = some am2 ∧ mixR den (bookAm l) m l.length k1 (wrap64 (ld - slackTo den ld (bookAm l) (bookAm left) (bookAm (coinsL ld am2 m l.length)) ld (bookAm l).length)) (takeL (slackTo den ld (bookAm l) (bookAm left) (bookAm (coinsL ld am2 m l.length)) ld (bookAm l).length) left (coinsL ld am2 m l.length)) (ps.map Pt.s ++ [⟨slackTo den ld (bookAm l) (bookAm left) (bookAm (coinsL ld am2 m l.length)) ld (bookAm l).length, coinsL ld am2 m l.length⟩]) = some out := by
    have h := HMX.out
    cases gk with
    | zero => rw [mixR, if_pos q2] at h; cases h
    | succ k1 =>
      rw [mixR, if_pos q2] at h
      cases hs : settleR ld 100 (bookAm left) with
      | none => rw [hs] at h; cases h
      | some am2 => rw [hs, Option.bind_some] at h; exact ⟨k1, am2, rfl, rfl, h⟩
  subst hgk
  have HS2 := Lib.hid hs2
  have HM2 := Lib.hid hm2
  clear hs2 hm2 HMX
  go_upto_region 8 with (fail)
  obtain ⟨Wd, ed⟩ : ∃ Wd, wr.drew = Wd := ⟨_, rfl⟩
  have hd0 : Below wr.heap.size wr Wd := by rw [← ed]; exact below_drew (Below.refl _ _)
  have HMd := Lib.hid (HM.out.below hd0)
  clear hd0 HM c0
  have hml : (rd_L2 left 0).length = m := HLL.out.2 _ (by
    have := rd_L2_nat left 0 (by have := HLL.out.1; have := HV.out.n0; omega)
    rw [show ((0 : Nat) : Int) = 0 from rfl] at this
    rw [this]
    exact List.getElem_mem _)
  have hm0 : 0 < m := by have := HV.out.m0; omega
  have hm6 : m ≤ 6 := by have := HV.out.m6; omega
  have HTL := Lib.hid (show Tab left from ⟨(by have := HLL.out.1; have := HV.out.n0; omega), (by have := HLL.out.1; have := HV.out.n6; omega), (by omega), (by omega), fun x hx => by rw [hml]; exact HLL.out.2 x hx⟩)
  have hld : ld ≠ 0 := by omega
  have HCL := Lib.hid (fun (W : World) (h : Below Wd.heap.size Wd W) => show Kd.C (Kd.slice 2 (Kd.int .i64)) W A7 left.length left ∧ left.length ≤ c7 by
    have h1 := (HMd.out.gr.below h).C
    rw [HLS.out] at h1
    obtain ⟨g, cc, e, _, _, hle⟩ := HMd.out.gr.form (by rw [← lines_len, HLS.out]; exact HTL.out.n0)
    injection e with e1 e2 e3
    rw [← lines_len, HLS.out, ← e3] at hle
    exact ⟨h1, hle⟩)
  have HRD := Lib.hid (fun (W : World) (h : Below Wd.heap.size Wd W) => show Calls Try.prog 68 #[.agg #[.int .i64 ld, .slice A7 l.length c7]] W fun e w' => ∃ A' c' rs, e = .returned (.slice A' l.length c') ∧ lines rs = coinsL ld am2 m l.length ∧ Grid w' W.heap.size (.slice A' l.length c') rs ∧ Below W.heap.size W w' by
    have h1 := round68_calls ld A7 c7 left W (HCL.out W h).1 (HCL.out W h).2 HTL.out hld 100 am2 HS2.out
    rw [hml, HLL.out.1] at h1
    exact h1)
  have HNB := Lib.hid (fun (W : World) (h : Below Wd.heap.size Wd W) => show Calls Try.prog 67 #[.agg #[.int .i64 ld, .slice A7 l.length c7]] W (BookPost W ld (.slice A7 l.length c7) left) by
    have h1 := newBook_calls ld A7 c7 left W (HCL.out W h).1 (HCL.out W h).2 HTL.out.n0 HTL.out.n6 HTL.out.m6 HTL.out.eq
    rw [HLL.out.1] at h1
    exact h1)
  have HS := Lib.hid (fun (W : World) (h : Below Wd.heap.size Wd W) => show W.cell? ⟨b7, 0, none⟩ = some (.int .i64 ld) ∧ W.cell? ⟨b7, 1, none⟩ = some (.slice A7 l.length c7) from
    ⟨(HMd.out.bb.below h HMd.out.bb.lt).cell 0, (HMd.out.bb.below h HMd.out.bb.lt).cell 1⟩)
  refine sA_ 7 (fun W => W.cell? ⟨b7, 0, none⟩ = some (.int .i64 ld) ∧ W.cell? ⟨b7, 1, none⟩ = some (.slice A7 l.length c7)) [6] mix49.tab8 mix49.bits8 (by rw [ed]; exact HS.out _ (Below.refl _ _)) (fun hHeld HT_ HW_ => ?_)
  rw [ed] at hHeld ⊢
  refine pA_ 0 (some 31) 7 1 ?_
  refine tB_ 1 (some 32) 7 3 ?_
  refine tB_ 2 (some 33) 7 7 ?_
  refine join_ (σ := Option Addr × Nat × Nat × List Ln) 1 #[true, true, true, true, true, true, false] (fun s_ => [(34, .slice s_.1 l.length s_.2.1), (35, .agg #[.int .i64 ld, .slice s_.1 l.length s_.2.1]), (8, .pointer (some ⟨s_.2.2.1, 0, none⟩))])
    (fun s_ w' => lines s_.2.2.2 = coinsL ld am2 m l.length ∧ Grid w' Wd.heap.size (.slice s_.1 l.length s_.2.1) s_.2.2.2 ∧ Blk w' s_.2.2.1 71 #[.int .i64 0, .slice none 0 0] ∧ Wd.heap.size ≤ s_.2.2.1 ∧ ((∀ r ∈ s_.2.2.2, r.b ≠ s_.2.2.1) ∧ ∀ k, (Value.slice s_.1 l.length s_.2.1).ownBlock = some k → k ≠ s_.2.2.1) ∧ Below Wd.heap.size Wd w') ?_ ?_
  rotate_left
  · intro hCont
    refine two_ (i := 3) (j := 5) (Ni := some 34) (Nj := some 8) #[true, true, true, true, false, false, false] #[true, true, true, false, false, true, false] rfl rfl rfl rfl (two_of HT_.out (by kernel_rfl)) (by decide) (by decide) (fun K hK => ?_) (fun K hK => ?_)
    · refine goes_ Try.func68 (by kernel_rfl) rfl #[.agg #[.int .i64 ld, .slice A7 l.length c7]] (by rfl) rfl rfl b11_ ?_
      refine (HRD.out _ (Below.refl _ _)).mono ?_
      rintro e W3 ⟨AP, cP, rsP, rfl, hl3, hg3, hb3⟩
      refine ⟨_, rfl, ?_⟩
      refine hK.out _ _ (HS.out _ hb3) (fun hHeld => ?_)
      clear hK K
      refine nA_ (some 34) ?_
      refine pA_ 4 (some 35) 7 31 ?_
      refine oA_ 5 (some 8) 7 63 (fun K hK => ?_)
      have hb4 := box1 W3 (.cells #[.int .i64 0, .slice none 0 0] 71)
      refine event_step (by rfl) (w1 := W3.alloc (.cells #[.int .i64 0, .slice none 0 0] 71)) (v := .pointer (some ⟨W3.heap.size, 0, none⟩)) (by go_simp) ?_
      refine hK.out _ _ (HS.out _ (below_then hb3 hb3.size hb4)) (fun hHeld2 => ?_)
      clear hK K
      refine nA_ (some 8) ?_
      exact norm_ b28_ (hCont (AP, cP, W3.heap.size, rsP) _ ⟨hl3, hg3.below hb4, Blk.new W3 _ 71, hb3.size, ⟨fun r hr => by have := hg3.lt r hr; show r.b ≠ W3.heap.size; omega, fun k hk => by have := own_lt hg3.own k hk; show k ≠ W3.heap.size; omega⟩, below_then hb3 hb3.size hb4⟩)
    have hb3 := box1 Wd (.cells #[.int .i64 0, .slice none 0 0] 71)
    refine event_step (by rfl) (w1 := Wd.alloc (.cells #[.int .i64 0, .slice none 0 0] 71)) (v := .pointer (some ⟨Wd.heap.size, 0, none⟩)) (by go_simp) ?_
    refine hK.out _ _ (HS.out _ hb3) (fun hHeld => ?_)
    clear hK K
    refine nA_ (some 8) ?_
    refine oA_ 3 (some 34) 7 47 (fun K hK => ?_)
    refine goes_ Try.func68 (by kernel_rfl) rfl #[.agg #[.int .i64 ld, .slice A7 l.length c7]] (by rfl) rfl rfl b11_ ?_
    refine (HRD.out _ hb3).mono ?_
    rintro e W3 ⟨AP, cP, rsP, rfl, hl3, hg3, hb4⟩
    refine ⟨_, rfl, ?_⟩
    have hsa : (Wd.alloc (.cells #[.int .i64 0, .slice none 0 0] 71)).heap.size = Wd.heap.size + 1 := by simp
    refine hK.out _ _ (HS.out _ (below_then hb3 hb3.size hb4)) (fun hHeld2 => ?_)
    clear hK K
    refine nA_ (some 34) ?_
    refine pA_ 4 (some 35) 7 63 ?_
    exact norm_ b28_ (hCont (AP, cP, Wd.heap.size, rsP) _ ⟨hl3, hg3.lower (by omega), (Blk.new Wd #[.int .i64 0, .slice none 0 0] 71).below hb4 (by omega), Nat.le_refl _, ⟨fun r hr => by have := (hg3.rows r hr).1; show r.b ≠ Wd.heap.size; omega, fun k hk => by have := own_base hg3.own k hk; show k ≠ Wd.heap.size; omega⟩, below_then hb3 hb3.size hb4⟩)
  rintro ⟨AP, cP, b8, rsP⟩ W3 ⟨hl3, hg3, hbk8, hb8, hne8, hb3⟩
  replace hl3 : lines rsP = coinsL ld am2 m l.length := hl3
  replace hg3 : Grid W3 Wd.heap.size (.slice AP l.length cP) rsP := hg3
  replace hbk8 : Blk W3 b8 71 #[.int .i64 0, .slice none 0 0] := hbk8
  replace hb8 : Wd.heap.size ≤ b8 := hb8
  replace hne8 : (∀ r ∈ rsP, r.b ≠ b8) ∧ ∀ k, (Value.slice AP l.length cP).ownBlock = some k → k ≠ b8 := hne8
  refine norm_ (a' := ?_) ?_ ?_
  rotate_left
  · simp only [putAll, Act.put, List.setIfInBounds_toArray, List.set_cons_zero, List.set_cons_succ]
    rfl
  have z0 : W3.cell? ⟨b8, 0, none⟩ = some (.int .i64 0) := hbk8.cell 0
  have z1 : W3.cell? ⟨b8, 1, none⟩ = some (.slice none 0 0) := hbk8.cell 1
  have f0 := hbk8.fz 0
  have f1 := hbk8.fz 1
  refine oL_ 6 none 7 127 (fun K hK => ?_)
  refine skip_ (w1 := (W3.setCell ⟨b8, 0, none⟩ (.int .i64 ld)).setCell ⟨b8, 1, none⟩ (.slice AP l.length cP)) (by rfl) rfl ?_ ?_
  · go_simp
  refine hK.out _ _ ?_
  clear hK K
  refine dA_ ?_
  have hg12 := (grown_set W3 b8 0 (.int .i64 ld)).trans (grown_set (W3.setCell ⟨b8, 0, none⟩ (.int .i64 ld)) b8 1 (.slice AP l.length cP))
  have HP4 := Lib.hid (show Blk ((W3.setCell ⟨b8, 0, none⟩ (.int .i64 ld)).setCell ⟨b8, 1, none⟩ (.slice AP l.length cP)) b8 71 #[.int .i64 ld, .slice AP l.length cP] by
    have h1 := (hbk8.set 0 (.int .i64 ld)).set 1 (.slice AP l.length cP)
    simpa using h1)
  have HG4 := Lib.hid (hg3.kept hg12 (fun k hk e => hne8.2 k hk (by injection e)) (fun r hr e => hne8.1 r hr (by injection e)))
  have HB4 := Lib.hid (below_grown hb3 hg12 (fun r e => by injection e with e; omega))
  have HLP := Lib.hid hl3
  have HNE := Lib.hid hne8
  clear hHeld HT_ HW_ z0 z1 f0 f1 hg12 ed hl3 hg3 hbk8 hne8 hb3 HRD
  generalize (W3.setCell ⟨b8, 0, none⟩ (.int .i64 ld)).setCell ⟨b8, 1, none⟩ (.slice AP l.length cP) = W4 at *
  go_upto_region 9 with (fail)
  obtain ⟨W5, ed⟩ : ∃ W5, W4.drew = W5 := ⟨_, rfl⟩
  have hd0 : Below W4.heap.size W4 W5 := by rw [← ed]; exact below_drew (Below.refl _ _)
  have HP5 := Lib.hid (HP4.out.below hd0 HP4.out.lt)
  have HG5 := Lib.hid (HG4.out.below hd0)
  have HB5 := Lib.hid (below_then HB4.out HB4.out.size hd0)
  clear hd0 HP4 HG4 HB4
  obtain ⟨cl, ecl⟩ : ∃ cl, coinsL ld am2 m l.length = cl := ⟨_, rfl⟩
  obtain ⟨htc, hmc, hlc⟩ := coinsL_tab (den := ld) (am := am2) HV.out.n0 HV.out.n6 hm0 hm6
  rw [ecl] at htc hmc hlc HLP HM2
  have HTC := Lib.hid htc
  have HMC := Lib.hid hmc
  have HLC := Lib.hid hlc
  clear htc hmc hlc ecl
  have HCC := Lib.hid (fun (W : World) (h : Below W5.heap.size W5 W) => show Kd.C (Kd.slice 2 (Kd.int .i64)) W AP cl.length cl ∧ cl.length ≤ cP by
    have h1 := (HG5.out.below h).C
    rw [HLP.out] at h1
    obtain ⟨g, cc, e, _, _, hle⟩ := HG5.out.form (by rw [← lines_len, HLP.out, HLC.out]; exact HV.out.n0)
    injection e with e1 e2 e3
    rw [← lines_len, HLP.out, ← e3] at hle
    exact ⟨h1, hle⟩)
  have HNC := Lib.hid (fun (W : World) (h : Below W5.heap.size W5 W) => show Calls Try.prog 67 #[.agg #[.int .i64 1, .slice AP l.length cP]] W (BookPost W 1 (.slice AP l.length cP) cl) by
    have h1 := newBook_calls 1 AP cP cl W (HCC.out W h).1 (HCC.out W h).2 HTC.out.n0 HTC.out.n6 HTC.out.m6 HTC.out.eq
    rw [HLC.out] at h1
    exact h1)
  have HT := Lib.hid (fun (W : World) (h : Below W5.heap.size W5 W) => show (W.cell? ⟨b7, 0, none⟩ = some (.int .i64 ld) ∧ W.cell? ⟨b7, 1, none⟩ = some (.slice A7 l.length c7)) ∧ W.cell? ⟨b8, 1, none⟩ = some (.slice AP l.length cP) from
    ⟨HS.out W (below_then HB5.out HB5.out.size h), (HP5.out.below h HP5.out.lt).cell 1⟩)
  refine sA_ 8 (fun W => (W.cell? ⟨b7, 0, none⟩ = some (.int .i64 ld) ∧ W.cell? ⟨b7, 1, none⟩ = some (.slice A7 l.length c7)) ∧ W.cell? ⟨b8, 1, none⟩ = some (.slice AP l.length cP)) [] mix49.tab9 mix49.bits9 (by rw [ed]; exact HT.out _ (Below.refl _ _)) (fun hHeld HT_ HW_ => ?_)
  rw [ed] at hHeld ⊢
  refine tG_ 0 (some 36) 8 1 ?_
  refine pA_ 2 (some 38) 8 5 ?_
  refine tG_ 3 (some 39) 8 13 ?_
  refine pA_ 4 (some 40) 8 29 ?_
  refine oA_ 1 (some 37) 8 31 (fun K hK => ?_)
  refine goes_ Try.func67 (by kernel_rfl) rfl #[.agg #[.int .i64 ld, .slice A7 l.length c7]] (by rfl) rfl rfl b11_ ?_
  refine (HNB.out _ HB5.out).mono ?_
  rintro e W6 ⟨B9, base9, bA9, cA9, rfl, hk9, hle9, hlt9, hb9⟩
  refine ⟨_, rfl, ?_⟩
  refine hK.out _ _ (HT.out _ hb9) (fun hHeld => ?_)
  clear hK K
  refine nA_ (some 37) ?_
  refine oA_ 5 (some 41) 8 63 (fun K hK => ?_)
  refine goes_ Try.func67 (by kernel_rfl) rfl #[.agg #[.int .i64 1, .slice AP l.length cP]] (by rfl) rfl rfl b11_ ?_
  refine (HNC.out _ hb9).mono ?_
  rintro e W7 ⟨B10, base10, bA10, cA10, rfl, hk10, hle10, hlt10, hb10⟩
  refine ⟨_, rfl, ?_⟩
  have hb910 := below_then hb9 hb9.size hb10
  refine hK.out _ _ (HT.out _ hb910) (fun hHeld => ?_)
  clear hK K
  refine nA_ (some 41) ?_
  refine pA_ 6 (some 9) 8 127 ?_
  refine pA_ 7 (some 10) 8 255 ?_
  refine dA_ ?_
  have h8l := HP5.out.lt
  have h96 := hb9.size
  have HQ := Lib.hid (show QI Wd W7 b8 ld AP l.length cP rsP B9 base9 ld (.slice A7 l.length c7) bA9 cA9 (bookAm left) B10 base10 (.slice AP l.length cP) bA10 cA10 (bookAm cl) from
    ⟨HP5.out.below hb910 h8l, HG5.out.below hb910, HNE.out, (show Bk W6 B9 base9 ld (.slice A7 l.length c7) bA9 cA9 (bookAm left) zero14 from ⟨hk9, hlt9⟩).below hb10, ⟨hk10, hlt10⟩, below_then HB5.out HB5.out.size hb910, ⟨hb8, (by omega), (by omega)⟩⟩)
  clear hHeld HT_ HW_ ed hk9 hle9 hlt9 hb9 hk10 hle10 hlt10 hb10 hb910 HT HNC HNB HCC HP5 HG5 HB5 HS HCL hb8 h8l h96
  have HL1 := Lib.hid (show (bookAm left).length = (bookAm l).length ∧ (bookAm cl).length = (bookAm l).length ∧ (bookAm l).length ≤ 100 by
    rw [HTL.out.len, HTC.out.len, HV.out.tab.len, hml, HMC.out, em, HLL.out.1, HLC.out]
    have := HV.out.tab.le100
    rw [HV.out.tab.len, em] at this
    exact ⟨rfl, rfl, this⟩)
  obtain ⟨am0, e0⟩ : ∃ a, bookAm l = a := ⟨_, rfl⟩
  obtain ⟨am1, e1⟩ : ∃ a, bookAm left = a := ⟨_, rfl⟩
  obtain ⟨am3, e3⟩ : ∃ a, bookAm cl = a := ⟨_, rfl⟩
  simp only [e0, e1, e3] at HL1 HQ HM2 HMd
  have hk0 := (HMd.out.below HQ.out.fr).bk.at_.c2
  have hB1 := HMd.out.bk.at_.lt
  have hd : den ≠ 0 := by have := HV.out.d1; omega
  have hz : (den == 0) = false := beq_eq_false_iff_ne.mpr hd
  go_wp2_with fail
  go_loopg [47] am0.length (fun kq v47 w' => ∃ (k : Nat) (wt : Int), v47 = .int .i64 k ∧ Aside0 (k + kq = am0.length) ∧ Aside0 (wt = slackTo den ld am0 am1 am3 ld k) ∧ Aside0 (QI Wd w' b8 wt AP l.length cP rsP B9 base9 ld (.slice A7 l.length c7) bA9 cA9 am1 B10 base10 (.slice AP l.length cP) bA10 cA10 am3))
  case atStart => exact ⟨0, ld, rfl, ⟨(by omega)⟩, ⟨rfl⟩, ⟨HQ.out⟩⟩
  clear HQ hk0
  obtain ⟨k, wt, rfl, HI, HW, HQ⟩ := hrel
  cases gk with
  | succ k2 =>
    have hk' : k < am0.length := by have := HI.out; omega
    have hlt : decide (k < am0.length) = true := by simp [hk']
    have hlt2 : decide ((k : Int) < (am0.length : Int)) = true := decide_eq_true (by omega)
    have hk100 : (k : Int) ≤ 100 := by have := HL1.out.2.2; omega
    have hk1 : k < am1.length := by rw [HL1.out.1]; exact hk'
    have hk3 : k < am3.length := by rw [HL1.out.2.1]; exact hk'
    obtain ⟨c0, c1, c2⟩ := (HMd.out.below HQ.out.fr).bk.cell k hk'
    have a0 := amAt_nat am0 k hk'
    have a1 := amAt_nat am1 k hk1
    have a3 := amAt_nat am3 k hk3
    have HC9 := Lib.hid (fun (W : World) (h : Below wr.heap.size wr W) => show W.cell? ⟨B9, 2, none⟩ = some (.slice (some ⟨bA9, 0, none⟩) am1.length cA9) ∧ W.cell? ⟨bA9, k * 3 + 2, none⟩ = some (.int .i64 am1[k].pa) ∧ W.cell? ⟨B10, 2, none⟩ = some (.slice (some ⟨bA10, 0, none⟩) am3.length cA10) ∧ W.cell? ⟨bA10, k * 3 + 2, none⟩ = some (.int .i64 am3[k].pa) from
      ⟨(HQ.out.k9.below h).at_.c2, ((HQ.out.k9.below h).cell k hk1).2.2, (HQ.out.k10.below h).at_.c2, ((HQ.out.k10.below h).cell k hk3).2.2⟩)
    have HSL := Lib.hid (show slackTo den ld am0 am1 am3 ld (k + 1) = slackF den ld am0[k].pa am1[k].pa am3[k].pa wt by rw [slackTo, ← HW.out, a0, a1, a3])
    have hl9 := HQ.out.k9.len_le
    have hl10 := HQ.out.k10.len_le
    generalize am0[k].fr = fr at *
    generalize am0[k].tt = tt at *
    generalize am0[k].pa = pa at *
    generalize am1[k].pa = pn at *
    generalize am3[k].pa = pc at *
    have hbl := World.block_lt_of_cell? wr _ c0
    clear a0 a1 a3 HW
    go_upto_region 13 with (fail)
    have HB5 := Lib.hid (box1 wr (.cells #[.int .i64 fr, .int .i64 tt, .int .i64 pa] 98))
    have HX5 := Lib.hid (Blk.new wr #[.int .i64 fr, .int .i64 tt, .int .i64 pa] 98)
    have HQ5 := Lib.hid (HQ.out.below HB5.out)
    have HC5 := Lib.hid (HC9.out _ HB5.out)
    have hsz5 : Wd.heap.size ≤ wr.heap.size := HQ.out.fr.size
    have hb8l := HQ.out.p8.lt
    clear HB5 HQ HC9 c0 c1 c2 hbl
    generalize wr.alloc (.cells #[.int .i64 fr, .int .i64 tt, .int .i64 pa] 98) = W8 at *
    generalize wr.heap.size = g12 at *
    have z2 : W8.cell? ⟨g12, 2, none⟩ = some (.int .i64 pa) := HX5.out.cell 2
    have zd : W8.cell? ⟨w.heap.size, 0, none⟩ = some (.int .i64 den) := (HMd.out.below HQ5.out.fr).x.cell 0
    have z7 : W8.cell? ⟨b7, 0, none⟩ = some (.int .i64 ld) := (HMd.out.below HQ5.out.fr).bb.cell 0
    have z8 : W8.cell? ⟨b8, 0, none⟩ = some (.int .i64 wt) := HQ5.out.p8.cell 0
    have f8 := HQ5.out.p8.fz 0
    obtain ⟨x0, x1, x2, x3⟩ := HC5.out
    by_cases u3 : pa.tmod den = 0
    · have v3 : (pa.tmod den == 0) = true := by simp [u3]
      have HW1 := Lib.hid (show wt = slackTo den ld am0 am1 am3 ld (k + 1) by rw [HSL.out, slackF, if_pos u3])
      clear u3
      go_wp2
      go_roundg k2
      case rel => exact ⟨k + 1, wt, (by go_num), ⟨b21_⟩, ⟨HW1.out⟩, ⟨HQ5.out⟩⟩
      case measure => omega
    have v3 : (pa.tmod den == 0) = false := by simp [u3]
    have hkk1 : (k : Int) < (am1.length : Int) := by omega
    have hkk3 : (k : Int) < (am3.length : Int) := by omega
    have hm1 : am1.length ≤ 9223372036854775807 := by omega
    have hm3 : am3.length ≤ 9223372036854775807 := by omega
    go_upto_region 15 with (fail)
    go_quiet (fail)
    have HQ6 := Lib.hid (HQ5.out.below (below_dN (Below.refl W8.heap.size W8) nq))
    by_cases u4 : pc = wrap64 (pa.tdiv den)
    rotate_left
    · have v4 : (pc == wrap64 (pa.tdiv den)) = false := by simp [u4]
      have HW1 := Lib.hid (show min wt (wrap64 (pn - wrap64 (wrap64 (pa.tdiv den) * ld))) = slackTo den ld am0 am1 am3 ld (k + 1) by rw [HSL.out, slackF, if_neg u3, if_neg u4])
      clear u3
      go_wp2
      go_roundg k2
      case rel => exact ⟨k + 1, _, (by go_num), ⟨b21_⟩, ⟨HW1.out⟩, ⟨HQ6.out.setWt _⟩⟩
      case measure => omega
    have v4 : (pc == wrap64 (pa.tdiv den)) = true := by simp [u4]
    have HW1 := Lib.hid (show min wt (wrap64 (ld - wrap64 (pn - wrap64 (wrap64 (pa.tdiv den) * ld)))) = slackTo den ld am0 am1 am3 ld (k + 1) by rw [HSL.out, slackF, if_neg u3, if_pos u4])
    clear u3
    go_wp2
    go_roundg k2
    case rel => exact ⟨k + 1, _, (by go_num), ⟨b21_⟩, ⟨HW1.out⟩, ⟨HQ6.out.setWt _⟩⟩
    case measure => omega
  | zero => ?_
  have hk' : k = am0.length := by have := HI.out; omega
  have hlt : decide (k < am0.length) = false := by simp [hk']
  have hlt2 : decide ((k : Int) < (am0.length : Int)) = false := decide_eq_false (by omega)
  have HWE := Lib.hid (show slackTo den ld am0 am1 am3 ld am0.length = wt by rw [HW.out, hk'])
  rw [HWE.out] at HM2
  clear hk' HWE HW HI
  have HMr := Lib.hid (HMd.out.below HQ.out.fr)
  have hNs := HMd.out.sz
  have hrl : rsP.length = l.length := by rw [← lines_len, HLP.out]; exact HLC.out
  have hrl2 : rs'.length = l.length := by rw [← lines_len, HLS.out]; exact HLL.out.1
  have y0 : wr.cell? ⟨b7, 0, none⟩ = some (.int .i64 ld) := HMr.out.bb.cell 0
  have y1 : wr.cell? ⟨b7, 1, none⟩ = some (.slice A7 l.length c7) := HMr.out.bb.cell 1
  have y2 : wr.cell? ⟨b8, 0, none⟩ = some (.int .i64 wt) := HQ.out.p8.cell 0
  have y3 : wr.cell? ⟨b8, 1, none⟩ = some (.slice AP l.length cP) := HQ.out.p8.cell 1
  have HROW := Lib.hid (show ∀ j, j < cl.length → (cl.getD j []).length = ((lines rs').getD j []).length by
    intro j hj
    have hj2 : j < left.length := by rw [HLL.out.1, ← HLC.out]; exact hj
    rw [HLS.out, List.getD_eq_getElem?_getD, List.getElem?_eq_getElem hj, List.getD_eq_getElem?_getD, List.getElem?_eq_getElem hj2, Option.getD_some, Option.getD_some, HLL.out.2 _ (List.getElem_mem hj2), HTC.out.eq _ (List.getElem_mem hj), HMC.out])
  have HTK := Lib.hid (show Calls Try.prog 76 #[.slice A7 l.length c7, .agg #[.int .i64 wt, .slice AP l.length cP]] wr fun e w' => (∃ v, e = .returned v) ∧ Grid w' g0 (.slice A7 l.length c7) (takeI wt 0 cl rs') ∧ KeepG rs' wr w' by
    have h1 := take_calls A7 l.length c7 g0 rs' wt AP cP cl wr HMr.out.gr (by
      have h2 := HQ.out.gp.Rok (fun k => ∀ r ∈ rs', r.b ≠ k) (fun k hk r hr => by
        have h3 := own_base HQ.out.gp.own k hk
        have h4 := (HMd.out.ne.1 r hr).2
        omega) (fun r2 hr2 r hr => by
        have h3 := (HQ.out.gp.rows r2 hr2).1
        have h4 := (HMd.out.ne.1 r hr).2
        omega)
      rw [HLP.out] at h2
      have h5 := Kd.R_F h2
      rw [← HLC.out] at h5
      exact h5) (by rw [HLC.out, hrl2]) (by rw [HLC.out]; have := HV.out.n6; omega) (fun j hj hj' => by
      have h2 := HROW.out j hj
      rw [List.getD_eq_getElem?_getD, List.getElem?_eq_getElem hj, Option.getD_some] at h2
      have hj3 : j < (lines rs').length := by rw [lines_len]; exact hj'
      rw [List.getD_eq_getElem?_getD, List.getElem?_eq_getElem hj3, Option.getD_some] at h2
      have h3 : (lines rs')[j] = rs'[j].l := by simp [lines]
      rw [h3] at h2
      refine ⟨h2, ?_⟩
      rw [HTC.out.eq _ (List.getElem_mem hj), HMC.out]
      omega)
    rw [HLC.out] at h1
    exact h1)
  go_upto_region 21 with (go_at_call 76; refine (HTK.out).mono ?_; rintro e W2 ⟨⟨ve, rfl⟩, hg2, hk2⟩; have HG2 := Lib.hid hg2; have HK2 := Lib.hid hk2; clear hg2 hk2)
  have HM3 := Lib.hid (HMr.out.took HK2.out HG2.out (takeI_dims wt cl 0 rs'))
  have hst : ∀ k, Wd.heap.size ≤ k → k < wr.heap.size → W2.heap[k]? = wr.heap[k]? := fun k h1 h2 => HK2.out.block k h2 (fun r hr e => by
    have := (HMd.out.ne.1 r hr).2
    omega)
  have HP3 := Lib.hid (show Blk W2 b8 71 #[.int .i64 wt, .slice AP l.length cP] from (hst b8 HQ.out.lo.1 HQ.out.p8.lt).trans HQ.out.p8)
  have HG3 := Lib.hid (HQ.out.gp.step hst)
  have hb8n : Wd.heap.size ≤ b8 := HQ.out.lo.1
  have HUB := Lib.hid (show ∀ k, u5.ownBlock = some k → k < Wd.heap.size from fun k hk => own_lt HMd.out.out.own k hk)
  have HLT := Lib.hid (takeI_takeL wt cl rs' (by rw [HLC.out, hrl2]) HROW.out)
  rw [HLS.out] at HLT
  clear y0 y1 y2 y3 HTK HQ HMr hst HG2 HK2 HROW
  have y0 : W2.cell? ⟨b7, 0, none⟩ = some (.int .i64 ld) := HM3.out.bb.cell 0
  have f0 := HM3.out.bb.fz 0
  have y2 : W2.cell? ⟨b8, 0, none⟩ = some (.int .i64 wt) := HP3.out.cell 0
  go_upto_region 22 with (fail)
  have hgs := grown_set W2 b7 0 (.int .i64 (wrap64 (ld - wt)))
  have hlo := HM3.out.lo
  have HM4 := Lib.hid (HM3.out.setDen (wrap64 (ld - wt)))
  have HP4 := Lib.hid (HP3.out.kept hgs (by simp; omega))
  have HG4 := Lib.hid (HG3.out.kept hgs (fun k hk e => by injection e with e; have := own_base HG3.out.own k hk; omega) (fun r hr e => by injection e with e; have := (HG3.out.rows r hr).1; omega))
  clear y0 f0 y2 HM3 HP3 HG3 hgs
  generalize W2.setCell ⟨b7, 0, none⟩ (.int .i64 (wrap64 (ld - wt))) = W3 at *
  have y2 : W3.cell? ⟨b8, 0, none⟩ = some (.int .i64 wt) := HP4.out.cell 0
  have y3 : W3.cell? ⟨b8, 1, none⟩ = some (.slice AP l.length cP) := HP4.out.cell 1
  obtain ⟨A9, c9, w9, hap, ho9, hg9⟩ := HM4.out.out.snoc (by have := HPL.out; omega) ⟨wt, AP, cP, rsP⟩ (by
    show Grid W3 N (.slice AP rsP.length cP) rsP
    rw [hrl]
    exact HG4.out.lower hNs) (fun k hk e => by
    have h1 := HUB.out k e.symm
    have hk' : (Value.slice AP l.length cP).ownBlock = some k := by rw [← hrl]; exact hk
    have h2 := own_base HG4.out.own k hk'
    omega) (fun r hr e => by
    have h1 := HUB.out r.b e.symm
    have h2 := (HG4.out.rows r hr).1
    omega) (fun k hk => by
    have hk' : (Value.slice AP l.length cP).ownBlock = some k := by rw [← hrl]; exact hk
    exact own_lt HG4.out.own k hk') HM4.out.sz
  have HM5 := Lib.hid (HM4.out.pushed hg9 ho9)
  have ev : (⟨wt, AP, cP, rsP⟩ : Pt).v = .slice AP l.length cP := by rw [Pt.v]; rw [hrl]
  rw [ev] at hap
  have es : (⟨wt, AP, cP, rsP⟩ : Pt).s = ⟨wt, cl⟩ := by rw [Pt.s]; rw [HLP.out]
  have HAP := Lib.hid hap
  clear hap ho9 hg9 ev hlo HM4 HP4 HG4
  go_wp2_with ((with_reducible refine gate_builtin (b := .append) (xs := #[.tmp 106, .tmp 108]) rfl ?_); at_builtin; refine append_run rfl (.tmp 106) (.tmp 108) 69 rfl _ _ _ w9 rfl rfl HAP.out ?_)
  go_roundg k1
  case rel => exact ⟨wrap64 (ld - wt), takeL wt left cl, takeI wt 0 cl rs', _, ps ++ [⟨wt, AP, cP, rsP⟩], rfl, ⟨(by rw [e0]; exact HM5.out)⟩, ⟨HLT.out⟩, ⟨(by rw [List.map_append, List.map_singleton, es, e0]; exact HM2.out)⟩, ⟨(by unfold takeL; rw [List.length_zipWith, HLL.out.1, HLC.out]; exact Nat.min_self _), fun x hx => by
    unfold takeL at hx
    obtain ⟨j, hj, rfl⟩ := List.getElem_of_mem hx
    rw [List.getElem_zipWith, List.length_zipWith]
    rw [List.length_zipWith] at hj
    rw [HLL.out.2 _ (List.getElem_mem _), HTC.out.eq _ (List.getElem_mem _), HMC.out]
    exact Nat.min_self _⟩, ⟨(by have := HPL.out; simp; omega)⟩⟩
  case measure => omega
end Go.Proofs.Ytcgdbjojjpoegaa.P

/- The walked functions in the print's form. -/
namespace Go.Proofs.Ytcgdbjojjpoegaa.P
open Go.RowKit Go.Shelf Go.Proofs.YtcgdbjojjpoegaaW.PrintWords Go.Proofs.YtcgdbjojjpoegaaW.PrintLast Go.Proofs.YtcgdbjojjpoegaaW.PrintMore
set_option linter.unusedVariables false
set_option linter.unusedSimpArgs false
def pole_CheckRounding.f (a0_0 : Int) (l0_1 l1 : List (List Int)) : Option Int := some (roundingE a0_0 l0_1 l1)
theorem pole_CheckRounding.calls (a0_0 : Int) (A0_1 : Option Addr) (c0_1 : Nat) (l0_1 : List (List Int)) (A1 : Option Addr) (c1 : Nat) (l1 : List (List Int)) (r : Int) (w : World) (hr0_1 : Kd.C (Kd.slice 2 (Kd.int .i64)) w A0_1 l0_1.length l0_1) (hc0_1 : l0_1.length ≤ c0_1) (hr1 : Kd.C (Kd.slice 2 (Kd.int .i64)) w A1 l1.length l1) (hc1 : l1.length ≤ c1) (h : pole_CheckRounding.f a0_0 l0_1 l1 = some r) :
    Calls Try.prog 30 #[.agg #[.int .i64 a0_0, .slice A0_1 l0_1.length c0_1], .slice A1 l1.length c1] w fun e w' => e = .returned (.int .i64 r) ∧ Below w.heap.size w w' := by
  injection h with h
  subst h
  exact checkRounding_calls a0_0 A0_1 c0_1 l0_1 A1 c1 l1 w hr0_1 hc0_1 hr1 hc1
def pole_round.f (a0_0 : Int) (l0_1 : List (List Int)) : Option (List (List Int)) :=
  if tableE a0_0 l0_1 = 0 then (settleR a0_0 100 (bookAm l0_1)).bind fun am2 => some (coinsL a0_0 am2 (rd_L2 l0_1 0).length l0_1.length) else none
theorem pole_round.calls (a0_0 : Int) (A0_1 : Option Addr) (c0_1 : Nat) (l0_1 : List (List Int)) (r : List (List Int)) (w : World) (hr0_1 : Kd.C (Kd.slice 2 (Kd.int .i64)) w A0_1 l0_1.length l0_1) (hc0_1 : l0_1.length ≤ c0_1) (h : pole_round.f a0_0 l0_1 = some r) :
    Calls Try.prog 68 #[.agg #[.int .i64 a0_0, .slice A0_1 l0_1.length c0_1]] w fun e w' => ∃ v0_ : Value, e = .returned v0_ ∧ Kd.S (Kd.slice 2 (Kd.int .i64)) 48 w' w.heap.size (fun _ => True) v0_ r ∧ Below w.heap.size w w' := by
  unfold pole_round.f at h
  split at h
  · rename_i h0
    have hv := Valid.of h0
    rw [Option.bind_eq_some_iff] at h
    obtain ⟨am2, hs, h⟩ := h
    injection h with h
    refine (round68_calls a0_0 A0_1 c0_1 l0_1 w hr0_1 hc0_1 hv.tab (by have := hv.d1; omega) 100 am2 hs).mono ?_
    rintro e w' ⟨A', c', rs, rfl, hl, hg, hb⟩
    rw [← h, ← hl]
    exact ⟨_, rfl, hg.S, hb⟩
  cases h
end Go.Proofs.Ytcgdbjojjpoegaa.P

namespace Go.Proofs.Ytcgdbjojjpoegaa.P
open Go.RowKit Go.Proofs.YtcgdbjojjpoegaaW.PrintWords Go.Proofs.YtcgdbjojjpoegaaW.PrintLast Go.Proofs.YtcgdbjojjpoegaaW.PrintMore
attribute [local go_sem] max2_int min2_int max_two min_two max_three min_three max_four min_four   -- for this text's walks alone
set_option linter.unusedVariables false
set_option linter.unusedSimpArgs false

/-! ### pole_Price: function 16 -/
def pole_Price.f (k : Nat) (l0 : List (S54)) (a1 : Int) : Option (Int × Int) := (pole_CheckSign.f l0).bind fun t102 => (if t102 = 0 then ((pole_within.f 0 2000 (([a1] : List Int))).bind fun t106 => (if t106 = true then ((pole_at.f k l0 a1).bind fun t107 => (if 0 ≤ t107 then (if t107 < (l0.length : Int) then (some ((rd_T54 l0 t107).f1, 0)) else (none)) else (none))) else (some (0, 3)))) else (some (0, t102)))
set_option maxHeartbeats 8000000 in
set_option maxRecDepth 100000 in
theorem pole_Price.calls (k : Nat) (A0 : Option Addr) (c0 : Nat) (l0 : List (S54)) (a1 : Int) (r1 : Int) (r2 : Int) (w : World) (hr0 : Kd.C k54 w A0 l0.length l0) (hc0 : l0.length ≤ c0) (h : pole_Price.f k l0 a1 = some (r1, r2)) :
    Calls Try.prog 16 #[.slice A0 l0.length c0, .int .i64 a1] w fun e w' => e = .returned (.tuple #[.int .i64 r1, .int .i64 r2]) ∧ Below w.heap.size w w' := by
  have HR0 := Aside0.mk hr0
  have HC0 := Aside0.mk hc0
  clear hr0 hc0
  have HB := Aside0.mk (Below.refl w.heap.size w)
  have H : ((pole_CheckSign.f l0).bind fun t102 => (if t102 = 0 then ((pole_within.f 0 2000 (([a1] : List Int))).bind fun t106 => (if t106 = true then ((pole_at.f k l0 a1).bind fun t107 => (if 0 ≤ t107 then (if t107 < (l0.length : Int) then (some ((rd_T54 l0 t107).f1, 0)) else (none)) else (none))) else (some (0, 3)))) else (some (0, t102)))) = some (r1, r2) := h
  clear h
  replace H := Option.bind_eq_some_iff.mp H
  obtain ⟨t102, A30, H⟩ := H
  replace H : (if t102 = 0 then ((pole_within.f 0 2000 (([a1] : List Int))).bind fun t106 => (if t106 = true then ((pole_at.f k l0 a1).bind fun t107 => (if 0 ≤ t107 then (if t107 < (l0.length : Int) then (some ((rd_T54 l0 t107).f1, 0)) else (none)) else (none))) else (some (0, 3)))) else (some (0, t102))) = some (r1, r2) := H
  have A3 := Aside0.mk A30
  clear A30
  by_cases c4 : t102 = 0
  rotate_left
  · rw [if_neg c4] at H
    have c4b0 : (t102 == 0) = false := beq_eq_false_iff_ne.mpr c4
    have c4b1 : (t102 != 0) = true := bne_iff_ne.mpr c4
    simp only [Option.some.injEq, Prod.mk.injEq] at H
    obtain ⟨rfl, rfl⟩ := H
    go_enter Try.func16, Try.ntmps16
    go_wp2_with (first | ((with_reducible refine gate_callee (f := 20) rfl ?_); refine goesL_ (some 8) rfl rfl Try.func20 (by kernel_rfl) rfl #[.slice A0 l0.length c0] rfl b3_ ?_; (with_reducible refine (pole_CheckSign.calls _ _ l0 t102 _ ?side1 ?side2 A3.out).mono ?_); (case side1 => repeat (first | exact HR0.out | (with_reducible refine Kd.C_alloc ?_ _) | (with_reducible refine Kd.C_drewN ?_ _) | (with_reducible refine Kd.C_drew ?_))); (case side2 => exact HC0.out); rintro e w20 ⟨rfl, hb⟩; refine ⟨_, rfl, ?_⟩; replace HB := hB_ HB hb; (try clear hb)))
    go_ret2
    exact ⟨b4_, b6_⟩
  rw [if_pos c4] at H
  have c4b0 : (t102 == 0) = true := beq_iff_eq.mpr c4
  have c4b1 : (t102 != 0) = false := bne_eq_false_iff_eq.mpr c4
  clear c4
  obtain ⟨y103, hy103⟩ : ∃ y_ : List Int, y_ = (([a1] : List Int)) := ⟨_, rfl⟩
  replace H : ((pole_within.f 0 2000 y103).bind fun t106 => (if t106 = true then ((pole_at.f k l0 a1).bind fun t107 => (if 0 ≤ t107 then (if t107 < (l0.length : Int) then (some ((rd_T54 l0 t107).f1, 0)) else (none)) else (none))) else (some (0, 3)))) = some (r1, r2) := by first | (rw [hy103]; with_reducible exact H) | (have H2_ := (Option.bind_some _ _).symm.trans H; rw [hy103]; with_reducible exact H2_) | (have H2_ := (Option.bind_some _ _).symm.trans H; with_reducible exact H2_) | with_reducible exact H | (rw [hy103]; exact H) | exact H
  have Ny103 := Aside0.mk hy103
  clear hy103
  replace H := Option.bind_eq_some_iff.mp H
  obtain ⟨t106, A50, H⟩ := H
  replace H : (if t106 = true then ((pole_at.f k l0 a1).bind fun t107 => (if 0 ≤ t107 then (if t107 < (l0.length : Int) then (some ((rd_T54 l0 t107).f1, 0)) else (none)) else (none))) else (some (0, 3))) = some (r1, r2) := H
  have A5 := Aside0.mk A50
  clear A50
  by_cases c6 : t106 = true
  rotate_left
  · replace c6 := Bool.eq_false_iff.mpr c6
    subst c6
    have H1 : (some (0, 3)) = some (r1, r2) := by rw [if_neg (show ¬ (false = true) by decide)] at H; exact H
    clear H
    have H := H1
    clear H1
    simp only [Option.some.injEq, Prod.mk.injEq] at H
    obtain ⟨rfl, rfl⟩ := H
    go_enter Try.func16, Try.ntmps16
    go_wp2_with (first | ((with_reducible refine gate_callee (f := 20) rfl ?_); refine goesL_ (some 8) rfl rfl Try.func20 (by kernel_rfl) rfl #[.slice A0 l0.length c0] rfl b3_ ?_; (with_reducible refine (pole_CheckSign.calls _ _ l0 t102 _ ?side1 ?side2 A3.out).mono ?_); (case side1 => repeat (first | exact HR0.out | (with_reducible refine Kd.C_alloc ?_ _) | (with_reducible refine Kd.C_drewN ?_ _) | (with_reducible refine Kd.C_drew ?_))); (case side2 => exact HC0.out); rintro e w15 ⟨rfl, hb⟩; refine ⟨_, rfl, ?_⟩; replace HB := hB_ HB hb; (try clear hb)) | ((with_reducible refine gate_dst (N := 15) rfl ?_); refine Kd.R_lit (Kd.int .i64) _ 2 ?hg (N := 15) ?hd (xs := ([a1] : List Int)) (inner := [.int .i64 a1]) (ok := fun _ => True) (okp := fun _ => True) ?hr ?hp (fun _ hk => hk) trivial (Below.refl _ _) (Nat.le_refl _) (by simp) ?_; (case hd => rfl); (case hg => rfl); (case hr => first | (go_simp; done) | (go_simp; rfl)); (case hp => exact (Reps.one (show Kd.M (Kd.int .i64) _ _ _ a1 [.int .i64 a1] from rfl) (Reps.none _ _))); intro v104 w16 ho17 hb hg_ hnew_; clear hg_ hnew_; (first | rw [← Ny103.out] at ho17 | (simp only [Int.reduceToNat] at ho17; rw [← Ny103.out] at ho17)); have HO105 := Aside0.mk (Kd.R_lower ho17 (below_size b6_)); replace HB := hB_ HB hb; clear hb ho17; obtain ⟨Ao18, co18, eo18⟩ := Kd.R_slice HO105.out; subst eo18) | ((with_reducible refine gate_callee (f := 51) rfl ?_); refine goesL_ (some 16) rfl rfl Try.func51 (by kernel_rfl) rfl #[.int .i64 0, .int .i64 2000, .slice Ao18 y103.length co18] rfl b3_ ?_; (with_reducible refine (pole_within.calls 0 2000 _ _ y103 false _ ?side1 ?side2 A5.out).mono ?_); (case side1 => repeat (first | exact (Kd.R_reads' HO105.out).2.2 | (with_reducible refine Kd.C_alloc ?_ _) | (with_reducible refine Kd.C_drewN ?_ _) | (with_reducible refine Kd.C_drew ?_))); (case side2 => exact (Kd.R_reads' HO105.out).2.1); rintro e w19 ⟨rfl, hb⟩; refine ⟨_, rfl, ?_⟩; replace HO105 := Aside0.mk (Kd.R_below (by (with_reducible repeat (first | apply Kd.R_alloc | apply Kd.R_drewN | apply Kd.R_drew)); exact HO105.out) hb); replace HB := hB_ HB hb; (try clear hb)))
    go_ret2
    exact ⟨b4_, b6_⟩
  subst c6
  have H1 : ((pole_at.f k l0 a1).bind fun t107 => (if 0 ≤ t107 then (if t107 < (l0.length : Int) then (some ((rd_T54 l0 t107).f1, 0)) else (none)) else (none))) = some (r1, r2) := by rw [if_pos rfl] at H; exact H
  clear H
  have H := H1
  clear H1
  replace H := Option.bind_eq_some_iff.mp H
  obtain ⟨t107, A70, H⟩ := H
  replace H : (if 0 ≤ t107 then (if t107 < (l0.length : Int) then (some ((rd_T54 l0 t107).f1, 0)) else (none)) else (none)) = some (r1, r2) := H
  have A7 := Aside0.mk A70
  clear A70
  by_cases c8 : 0 ≤ t107
  rotate_left
  · rw [if_neg c8] at H
    exact absurd H (by simp)
  rw [if_pos c8] at H
  have c8b0 : decide (0 ≤ t107) = true := decide_eq_true c8
  clear c8
  by_cases c9 : t107 < (l0.length : Int)
  rotate_left
  · rw [if_neg c9] at H
    exact absurd H (by simp)
  rw [if_pos c9] at H
  have c9b0 : decide (t107 < (l0.length : Int)) = true := decide_eq_true c9
  clear c9
  simp only [Option.some.injEq, Prod.mk.injEq] at H
  obtain ⟨rfl, rfl⟩ := H
  go_enter Try.func16, Try.ntmps16
  go_wp2_with (first | ((with_reducible refine gate_callee (f := 20) rfl ?_); refine goesL_ (some 8) rfl rfl Try.func20 (by kernel_rfl) rfl #[.slice A0 l0.length c0] rfl b3_ ?_; (with_reducible refine (pole_CheckSign.calls _ _ l0 t102 _ ?side1 ?side2 A3.out).mono ?_); (case side1 => repeat (first | exact HR0.out | (with_reducible refine Kd.C_alloc ?_ _) | (with_reducible refine Kd.C_drewN ?_ _) | (with_reducible refine Kd.C_drew ?_))); (case side2 => exact HC0.out); rintro e w10 ⟨rfl, hb⟩; refine ⟨_, rfl, ?_⟩; replace HB := hB_ HB hb; (try clear hb)) | ((with_reducible refine gate_dst (N := 15) rfl ?_); refine Kd.R_lit (Kd.int .i64) _ 2 ?hg (N := 15) ?hd (xs := ([a1] : List Int)) (inner := [.int .i64 a1]) (ok := fun _ => True) (okp := fun _ => True) ?hr ?hp (fun _ hk => hk) trivial (Below.refl _ _) (Nat.le_refl _) (by simp) ?_; (case hd => rfl); (case hg => rfl); (case hr => first | (go_simp; done) | (go_simp; rfl)); (case hp => exact (Reps.one (show Kd.M (Kd.int .i64) _ _ _ a1 [.int .i64 a1] from rfl) (Reps.none _ _))); intro v104 w11 ho12 hb hg_ hnew_; clear hg_ hnew_; (first | rw [← Ny103.out] at ho12 | (simp only [Int.reduceToNat] at ho12; rw [← Ny103.out] at ho12)); have HO105 := Aside0.mk (Kd.R_lower ho12 (below_size b6_)); replace HB := hB_ HB hb; clear hb ho12; obtain ⟨Ao13, co13, eo13⟩ := Kd.R_slice HO105.out; subst eo13) | ((with_reducible refine gate_callee (f := 51) rfl ?_); refine goesL_ (some 16) rfl rfl Try.func51 (by kernel_rfl) rfl #[.int .i64 0, .int .i64 2000, .slice Ao13 y103.length co13] rfl b3_ ?_; (with_reducible refine (pole_within.calls 0 2000 _ _ y103 true _ ?side1 ?side2 A5.out).mono ?_); (case side1 => repeat (first | exact (Kd.R_reads' HO105.out).2.2 | (with_reducible refine Kd.C_alloc ?_ _) | (with_reducible refine Kd.C_drewN ?_ _) | (with_reducible refine Kd.C_drew ?_))); (case side2 => exact (Kd.R_reads' HO105.out).2.1); rintro e w14 ⟨rfl, hb⟩; refine ⟨_, rfl, ?_⟩; replace HO105 := Aside0.mk (Kd.R_below (by (with_reducible repeat (first | apply Kd.R_alloc | apply Kd.R_drewN | apply Kd.R_drew)); exact HO105.out) hb); replace HB := hB_ HB hb; (try clear hb)) | ((with_reducible refine gate_callee (f := 52) rfl ?_); refine goesL_ (some 21) rfl rfl Try.func52 (by kernel_rfl) rfl #[.slice A0 l0.length c0, .int .i64 a1] rfl b3_ ?_; (with_reducible refine (pole_at.calls k _ _ l0 a1 t107 _ ?side1 ?side2 A7.out).mono ?_); (case side1 => repeat (first | exact (Kd.C_below HR0.out HB.out) | (with_reducible refine Kd.C_alloc ?_ _) | (with_reducible refine Kd.C_drewN ?_ _) | (with_reducible refine Kd.C_drew ?_))); (case side2 => exact HC0.out); rintro e w' ⟨rfl, ⟨nd, rfl⟩⟩; refine ⟨_, rfl, ?_⟩; have p108 : 0 ≤ (t107 : Int) := of_decide_eq_true b2_; have q108 : t107 < (l0.length : Int) := of_decide_eq_true b2_; obtain ⟨ad108, e108, hx108_0, hx108_1⟩ := at_T54 HR0.out t107 p108 q108; cases e108; replace hx108_0 := (HB.out.cell (World.block_lt_of_cell? w _ hx108_0)).trans hx108_0; replace hx108_1 := (HB.out.cell (World.block_lt_of_cell? w _ hx108_1)).trans hx108_1; replace p108 := eq_true p108; replace q108 := eq_true q108))
  go_ret2
  exact ⟨b4_, b6_⟩

end Go.Proofs.Ytcgdbjojjpoegaa.P

namespace Go.Proofs.Ytcgdbjojjpoegaa.P
open Go.RowKit Go.Proofs.YtcgdbjojjpoegaaW.PrintWords Go.Proofs.YtcgdbjojjpoegaaW.PrintLast Go.Proofs.YtcgdbjojjpoegaaW.PrintMore
attribute [local go_sem] max2_int min2_int max_two min_two max_three min_three max_four min_four   -- for this text's walks alone
set_option linter.unusedVariables false
set_option linter.unusedSimpArgs false

/-! ### pole_Fair: function 18 -/
def pole_Fair.f (l0 : List (S54)) (a1_0 : Int) (a1_1 : Int) (a2 : Int) : Option (Int × Int) := (pole_checkClocks.f l0 a1_0 a1_1).bind fun t116 => (if t116 = 0 then ((pole_within.f 0 2000 (([a2] : List Int))).bind fun t120 => (if t120 = true then ((pole_fair.f l0 a1_0 a1_1 a2).bind fun t121 => (some (t121, 0))) else (some (0, 3)))) else (some (0, t116)))
set_option maxHeartbeats 8000000 in
set_option maxRecDepth 100000 in
theorem pole_Fair.calls (A0 : Option Addr) (c0 : Nat) (l0 : List (S54)) (a1_0 : Int) (a1_1 : Int) (a2 : Int) (r1 : Int) (r2 : Int) (w : World) (hr0 : Kd.C k54 w A0 l0.length l0) (hc0 : l0.length ≤ c0) (h : pole_Fair.f l0 a1_0 a1_1 a2 = some (r1, r2)) :
    Calls Try.prog 18 #[.slice A0 l0.length c0, .agg #[.int .i64 a1_0, .int .i64 a1_1], .int .i64 a2] w fun e w' => e = .returned (.tuple #[.int .i64 r1, .int .i64 r2]) ∧ Below w.heap.size w w' := by
  have hu24 := Try.underlying24
  have HR0 := Aside0.mk hr0
  have HC0 := Aside0.mk hc0
  clear hr0 hc0
  have HB := Aside0.mk (Below.refl w.heap.size w)
  have H : ((pole_checkClocks.f l0 a1_0 a1_1).bind fun t116 => (if t116 = 0 then ((pole_within.f 0 2000 (([a2] : List Int))).bind fun t120 => (if t120 = true then ((pole_fair.f l0 a1_0 a1_1 a2).bind fun t121 => (some (t121, 0))) else (some (0, 3)))) else (some (0, t116)))) = some (r1, r2) := h
  clear h
  replace H := Option.bind_eq_some_iff.mp H
  obtain ⟨t116, A40, H⟩ := H
  replace H : (if t116 = 0 then ((pole_within.f 0 2000 (([a2] : List Int))).bind fun t120 => (if t120 = true then ((pole_fair.f l0 a1_0 a1_1 a2).bind fun t121 => (some (t121, 0))) else (some (0, 3)))) else (some (0, t116))) = some (r1, r2) := H
  have A4 := Aside0.mk A40
  clear A40
  by_cases c5 : t116 = 0
  rotate_left
  · rw [if_neg c5] at H
    have c5b0 : (t116 == 0) = false := beq_eq_false_iff_ne.mpr c5
    have c5b1 : (t116 != 0) = true := bne_iff_ne.mpr c5
    simp only [Option.some.injEq, Prod.mk.injEq] at H
    obtain ⟨rfl, rfl⟩ := H
    go_enter Try.func18, Try.ntmps18
    go_wp2_with (first | ((with_reducible refine gate_dst (N := 4) rfl ?_); refine bx_ (cs := #[.int .i64 a1_0, .int .i64 a1_1]) (t := 24) (fun gb115 w25 BK115 GE115 HB => ?_); obtain ⟨hcz26_0, hcz26_1, hfz26_0, hfz26_1⟩ := cz2_ BK115.out) | ((with_reducible refine gate_callee (f := 53) rfl ?_); refine goesL_ (some 11) rfl rfl Try.func53 (by kernel_rfl) rfl #[.slice A0 l0.length c0, .agg #[.int .i64 a1_0, .int .i64 a1_1]] rfl b3_ ?_; (with_reducible refine (pole_checkClocks.calls _ _ l0 a1_0 a1_1 t116 _ ?side1 ?side2 A4.out).mono ?_); (case side1 => repeat (first | exact (Kd.C_below HR0.out HB.out) | (with_reducible refine Kd.C_alloc ?_ _) | (with_reducible refine Kd.C_drewN ?_ _) | (with_reducible refine Kd.C_drew ?_))); (case side2 => exact HC0.out); rintro e w27 ⟨rfl, hb⟩; refine ⟨_, rfl, ?_⟩; replace BK115 := bk_ BK115 hb; replace HB := hB_ HB hb; (try clear hb)))
    go_ret2
    exact ⟨b4_, b1_⟩
  rw [if_pos c5] at H
  have c5b0 : (t116 == 0) = true := beq_iff_eq.mpr c5
  have c5b1 : (t116 != 0) = false := bne_eq_false_iff_eq.mpr c5
  clear c5
  obtain ⟨y117, hy117⟩ : ∃ y_ : List Int, y_ = (([a2] : List Int)) := ⟨_, rfl⟩
  replace H : ((pole_within.f 0 2000 y117).bind fun t120 => (if t120 = true then ((pole_fair.f l0 a1_0 a1_1 a2).bind fun t121 => (some (t121, 0))) else (some (0, 3)))) = some (r1, r2) := by first | (rw [hy117]; with_reducible exact H) | (have H2_ := (Option.bind_some _ _).symm.trans H; rw [hy117]; with_reducible exact H2_) | (have H2_ := (Option.bind_some _ _).symm.trans H; with_reducible exact H2_) | with_reducible exact H | (rw [hy117]; exact H) | exact H
  have Ny117 := Aside0.mk hy117
  clear hy117
  replace H := Option.bind_eq_some_iff.mp H
  obtain ⟨t120, A60, H⟩ := H
  replace H : (if t120 = true then ((pole_fair.f l0 a1_0 a1_1 a2).bind fun t121 => (some (t121, 0))) else (some (0, 3))) = some (r1, r2) := H
  have A6 := Aside0.mk A60
  clear A60
  by_cases c7 : t120 = true
  rotate_left
  · replace c7 := Bool.eq_false_iff.mpr c7
    subst c7
    have H1 : (some (0, 3)) = some (r1, r2) := by rw [if_neg (show ¬ (false = true) by decide)] at H; exact H
    clear H
    have H := H1
    clear H1
    simp only [Option.some.injEq, Prod.mk.injEq] at H
    obtain ⟨rfl, rfl⟩ := H
    go_enter Try.func18, Try.ntmps18
    go_wp2_with (first | ((with_reducible refine gate_dst (N := 4) rfl ?_); refine bx_ (cs := #[.int .i64 a1_0, .int .i64 a1_1]) (t := 24) (fun gb115 w18 BK115 GE115 HB => ?_); obtain ⟨hcz19_0, hcz19_1, hfz19_0, hfz19_1⟩ := cz2_ BK115.out) | ((with_reducible refine gate_callee (f := 53) rfl ?_); refine goesL_ (some 11) rfl rfl Try.func53 (by kernel_rfl) rfl #[.slice A0 l0.length c0, .agg #[.int .i64 a1_0, .int .i64 a1_1]] rfl b3_ ?_; (with_reducible refine (pole_checkClocks.calls _ _ l0 a1_0 a1_1 t116 _ ?side1 ?side2 A4.out).mono ?_); (case side1 => repeat (first | exact (Kd.C_below HR0.out HB.out) | (with_reducible refine Kd.C_alloc ?_ _) | (with_reducible refine Kd.C_drewN ?_ _) | (with_reducible refine Kd.C_drew ?_))); (case side2 => exact HC0.out); rintro e w20 ⟨rfl, hb⟩; refine ⟨_, rfl, ?_⟩; replace BK115 := bk_ BK115 hb; replace HB := hB_ HB hb; (try clear hb)) | ((with_reducible refine gate_dst (N := 18) rfl ?_); refine Kd.R_lit (Kd.int .i64) _ 2 ?hg (N := 18) ?hd (xs := ([a2] : List Int)) (inner := [.int .i64 a2]) (ok := fun _ => True) (okp := fun _ => True) ?hr ?hp (fun _ hk => hk) trivial (Below.refl _ _) (Nat.le_refl _) (by simp) ?_; (case hd => rfl); (case hg => rfl); (case hr => first | (go_simp; done) | (go_simp; rfl)); (case hp => exact (Reps.one (show Kd.M (Kd.int .i64) _ _ _ a2 [.int .i64 a2] from rfl) (Reps.none _ _))); intro v118 w21 ho22 hb hg_ hnew_; clear hg_ hnew_; (first | rw [← Ny117.out] at ho22 | (simp only [Int.reduceToNat] at ho22; rw [← Ny117.out] at ho22)); have HO119 := Aside0.mk (Kd.R_lower ho22 (below_size b1_)); replace BK115 := bk_ BK115 hb; replace HB := hB_ HB hb; clear hb ho22; obtain ⟨Ao23, co23, eo23⟩ := Kd.R_slice HO119.out; subst eo23) | ((with_reducible refine gate_callee (f := 51) rfl ?_); refine goesL_ (some 19) rfl rfl Try.func51 (by kernel_rfl) rfl #[.int .i64 0, .int .i64 2000, .slice Ao23 y117.length co23] rfl b3_ ?_; (with_reducible refine (pole_within.calls 0 2000 _ _ y117 false _ ?side1 ?side2 A6.out).mono ?_); (case side1 => repeat (first | exact (Kd.R_reads' HO119.out).2.2 | (with_reducible refine Kd.C_alloc ?_ _) | (with_reducible refine Kd.C_drewN ?_ _) | (with_reducible refine Kd.C_drew ?_))); (case side2 => exact (Kd.R_reads' HO119.out).2.1); rintro e w24 ⟨rfl, hb⟩; refine ⟨_, rfl, ?_⟩; replace HO119 := Aside0.mk (Kd.R_below (by (with_reducible repeat (first | apply Kd.R_alloc | apply Kd.R_drewN | apply Kd.R_drew)); exact HO119.out) hb); replace BK115 := bk_ BK115 hb; replace HB := hB_ HB hb; (try clear hb)))
    go_ret2
    exact ⟨b4_, b1_⟩
  subst c7
  have H1 : ((pole_fair.f l0 a1_0 a1_1 a2).bind fun t121 => (some (t121, 0))) = some (r1, r2) := by rw [if_pos rfl] at H; exact H
  clear H
  have H := H1
  clear H1
  replace H := Option.bind_eq_some_iff.mp H
  obtain ⟨t121, A80, H⟩ := H
  replace H : (some (t121, 0)) = some (r1, r2) := H
  have A8 := Aside0.mk A80
  clear A80
  simp only [Option.some.injEq, Prod.mk.injEq] at H
  obtain ⟨rfl, rfl⟩ := H
  go_enter Try.func18, Try.ntmps18
  go_wp2_with (first | ((with_reducible refine gate_dst (N := 4) rfl ?_); refine bx_ (cs := #[.int .i64 a1_0, .int .i64 a1_1]) (t := 24) (fun gb115 w9 BK115 GE115 HB => ?_); obtain ⟨hcz10_0, hcz10_1, hfz10_0, hfz10_1⟩ := cz2_ BK115.out) | ((with_reducible refine gate_callee (f := 53) rfl ?_); refine goesL_ (some 11) rfl rfl Try.func53 (by kernel_rfl) rfl #[.slice A0 l0.length c0, .agg #[.int .i64 a1_0, .int .i64 a1_1]] rfl b3_ ?_; (with_reducible refine (pole_checkClocks.calls _ _ l0 a1_0 a1_1 t116 _ ?side1 ?side2 A4.out).mono ?_); (case side1 => repeat (first | exact (Kd.C_below HR0.out HB.out) | (with_reducible refine Kd.C_alloc ?_ _) | (with_reducible refine Kd.C_drewN ?_ _) | (with_reducible refine Kd.C_drew ?_))); (case side2 => exact HC0.out); rintro e w11 ⟨rfl, hb⟩; refine ⟨_, rfl, ?_⟩; replace BK115 := bk_ BK115 hb; replace HB := hB_ HB hb; (try clear hb)) | ((with_reducible refine gate_dst (N := 18) rfl ?_); refine Kd.R_lit (Kd.int .i64) _ 2 ?hg (N := 18) ?hd (xs := ([a2] : List Int)) (inner := [.int .i64 a2]) (ok := fun _ => True) (okp := fun _ => True) ?hr ?hp (fun _ hk => hk) trivial (Below.refl _ _) (Nat.le_refl _) (by simp) ?_; (case hd => rfl); (case hg => rfl); (case hr => first | (go_simp; done) | (go_simp; rfl)); (case hp => exact (Reps.one (show Kd.M (Kd.int .i64) _ _ _ a2 [.int .i64 a2] from rfl) (Reps.none _ _))); intro v118 w12 ho13 hb hg_ hnew_; clear hg_ hnew_; (first | rw [← Ny117.out] at ho13 | (simp only [Int.reduceToNat] at ho13; rw [← Ny117.out] at ho13)); have HO119 := Aside0.mk (Kd.R_lower ho13 (below_size b1_)); replace BK115 := bk_ BK115 hb; replace HB := hB_ HB hb; clear hb ho13; obtain ⟨Ao14, co14, eo14⟩ := Kd.R_slice HO119.out; subst eo14) | ((with_reducible refine gate_callee (f := 51) rfl ?_); refine goesL_ (some 19) rfl rfl Try.func51 (by kernel_rfl) rfl #[.int .i64 0, .int .i64 2000, .slice Ao14 y117.length co14] rfl b3_ ?_; (with_reducible refine (pole_within.calls 0 2000 _ _ y117 true _ ?side1 ?side2 A6.out).mono ?_); (case side1 => repeat (first | exact (Kd.R_reads' HO119.out).2.2 | (with_reducible refine Kd.C_alloc ?_ _) | (with_reducible refine Kd.C_drewN ?_ _) | (with_reducible refine Kd.C_drew ?_))); (case side2 => exact (Kd.R_reads' HO119.out).2.1); rintro e w15 ⟨rfl, hb⟩; refine ⟨_, rfl, ?_⟩; replace HO119 := Aside0.mk (Kd.R_below (by (with_reducible repeat (first | apply Kd.R_alloc | apply Kd.R_drewN | apply Kd.R_drew)); exact HO119.out) hb); replace BK115 := bk_ BK115 hb; replace HB := hB_ HB hb; (try clear hb); obtain ⟨hcz16_0, hcz16_1, hfz16_0, hfz16_1⟩ := cz2_ BK115.out) | ((with_reducible refine gate_callee (f := 54) rfl ?_); refine goesL_ (some 24) rfl rfl Try.func54 (by kernel_rfl) rfl #[.slice A0 l0.length c0, .agg #[.int .i64 a1_0, .int .i64 a1_1], .int .i64 a2] rfl b3_ ?_; (with_reducible refine (pole_fair.calls _ _ l0 a1_0 a1_1 a2 t121 _ ?side1 ?side2 A8.out).mono ?_); (case side1 => repeat (first | exact (Kd.C_below HR0.out HB.out) | (with_reducible refine Kd.C_alloc ?_ _) | (with_reducible refine Kd.C_drewN ?_ _) | (with_reducible refine Kd.C_drew ?_))); (case side2 => exact HC0.out); rintro e w17 ⟨rfl, hb⟩; refine ⟨_, rfl, ?_⟩; replace HO119 := Aside0.mk (Kd.R_below (by (with_reducible repeat (first | apply Kd.R_alloc | apply Kd.R_drewN | apply Kd.R_drew)); exact HO119.out) hb); replace BK115 := bk_ BK115 hb; replace HB := hB_ HB hb; (try clear hb)))
  go_ret2
  exact ⟨b4_, b1_⟩

end Go.Proofs.Ytcgdbjojjpoegaa.P

namespace Go.Proofs.Ytcgdbjojjpoegaa.P
open Go.RowKit Go.Proofs.YtcgdbjojjpoegaaW.PrintWords Go.Proofs.YtcgdbjojjpoegaaW.PrintLast Go.Proofs.YtcgdbjojjpoegaaW.PrintMore
attribute [local go_sem] max2_int min2_int max_two min_two max_three min_three max_four min_four   -- for this text's walks alone
set_option linter.unusedVariables false
set_option linter.unusedSimpArgs false

theorem eqA54 (d : Nat) (w : World) (x0 y0 : Int) (x1 y1 : Int) :
    (Op.equalIn (d + 2) 54 (.agg #[.int .i64 x0, .int .i64 x1]) (.agg #[.int .i64 y0, .int .i64 y1])).run Try.prog w = .ok (x0 == y0 && (x1 == y1)) w := by
  refine eqA_of Try.underlying54 (by kernel_rfl) ?_
  refine eqf_cons (by rfl) (by go_simp; rfl) (by go_simp; rfl) (by go_simp) ?_
  exact eqf_last (by rfl) (by go_simp; rfl) (by go_simp; rfl) (by go_simp)
end Go.Proofs.Ytcgdbjojjpoegaa.P

namespace Go.Proofs.Ytcgdbjojjpoegaa.P
open Go.RowKit Go.Proofs.YtcgdbjojjpoegaaW.PrintWords Go.Proofs.YtcgdbjojjpoegaaW.PrintLast Go.Proofs.YtcgdbjojjpoegaaW.PrintMore
attribute [local go_sem] max2_int min2_int max_two min_two max_three min_three max_four min_four   -- for this text's walks alone
set_option linter.unusedVariables false
set_option linter.unusedSimpArgs false

attribute [local go_sem high] eqA54
/-! ### forecourtlaw09_prices: function 26 -/
def forecourtlaw09_prices.l0 : Nat → List (S54) → List (S54) → Int → Option (Bool)
  | 0, _, _, _ => none
  | k + 1, x0, x1, x5 => if x5 < (x0.length : Int) then (if 0 ≤ x5 then (if x5 < (x1.length : Int) then (if (!(((rd_T54 x0 x5).f0) == ((rd_T54 x1 x5).f0)) || (!(((rd_T54 x0 x5).f1) == ((rd_T54 x1 x5).f1)))) = true then (some false) else (forecourtlaw09_prices.l0 k x0 x1 (wrap64 (x5 + 1)))) else (none)) else (none)) else (some true)
def forecourtlaw09_prices.f (k : Nat) (l0 : List (S54)) (l1 : List (S54)) : Option (Bool) := if (l0.length : Int) = (l1.length : Int) then (forecourtlaw09_prices.l0 k l0 l1 0) else (some false)
set_option maxHeartbeats 8000000 in
set_option maxRecDepth 100000 in
theorem forecourtlaw09_prices.calls (k : Nat) (A0 : Option Addr) (c0 : Nat) (l0 : List (S54)) (A1 : Option Addr) (c1 : Nat) (l1 : List (S54)) (r : Bool) (w : World) (hr0 : Kd.C k54 w A0 l0.length l0) (hc0 : l0.length ≤ c0) (hr1 : Kd.C k54 w A1 l1.length l1) (hc1 : l1.length ≤ c1) (h : forecourtlaw09_prices.f k l0 l1 = some r) :
    Calls Try.prog 26 #[.slice A0 l0.length c0, .slice A1 l1.length c1] w fun e w' => e = .returned (.bool r) ∧ Drawn0 w w' := by
  have hu54 := Try.underlying54
  have HR0 := Aside0.mk hr0
  have HC0 := Aside0.mk hc0
  clear hr0 hc0
  have HR1 := Aside0.mk hr1
  have HC1 := Aside0.mk hc1
  clear hr1 hc1
  have H : (if (l0.length : Int) = (l1.length : Int) then (forecourtlaw09_prices.l0 k l0 l1 0) else (some false)) = some r := h
  clear h
  by_cases c3 : (l0.length : Int) = (l1.length : Int)
  rotate_left
  · rw [if_neg c3] at H
    have c3b0 : ((l0.length : Int) == (l1.length : Int)) = false := beq_eq_false_iff_ne.mpr c3
    have c3b1 : ((l0.length : Int) != (l1.length : Int)) = true := bne_iff_ne.mpr c3
    have c3b2 : (l0.length == l1.length) = false := by first | simpa using c3 | (simp at c3 ⊢; omega)
    obtain rfl := Option.some.inj H
    go_enter Try.func26, Try.ntmps26
    go_wp2
    repeat (go_quiet (fail); try go_wp2)
    go_ret
    exact ⟨b5_, b8_⟩
  rw [if_pos c3] at H
  have c3b0 : ((l0.length : Int) == (l1.length : Int)) = true := beq_iff_eq.mpr c3
  have c3b1 : ((l0.length : Int) != (l1.length : Int)) = false := bne_eq_false_iff_eq.mpr c3
  have c3b2 : (l0.length == l1.length) = true := by first | simpa using c3 | (simp at c3 ⊢; omega)
  clear c3
  have H' := Aside0.mk H
  clear H
  go_enter Try.func26, Try.ntmps26
  go_wp2
  repeat (go_quiet (fail); try go_wp2)
  go_loopg [5] k (fun kq v5 w' => ∃ (x5_1 : Int), v5 = .int .i64 x5_1 ∧ Aside0 (forecourtlaw09_prices.l0 kq l0 l1 x5_1 = some r) ∧ Aside0 (kq ≤ k) ∧ Drawn0 w w')
  case atStart => exact ⟨(0), b5_, H', ⟨Nat.le_refl _⟩, b8_⟩
  clear H'
  try clear c1
  try clear c2
  try clear p2
  try clear c3
  try clear c3b0
  try clear c3b1
  try clear c3b2
  obtain ⟨x5_1, rfl, HA, HK1, ⟨m1, rfl⟩⟩ := hrel
  cases gk with
  | zero => exact absurd HA.out (by simp [forecourtlaw09_prices.l0])
  | succ k1 => ?_
  have H := HA.out
  clear HA
  simp only [forecourtlaw09_prices.l0] at H
  by_cases c4 : x5_1 < (l0.length : Int)
  rotate_left
  · rw [if_neg c4] at H
    have c4b0 : decide (x5_1 < (l0.length : Int)) = false := decide_eq_false c4
    clear c4
    obtain rfl := Option.some.inj H
    go_wp2
    repeat (go_quiet (fail); try go_wp2)
    go_ret
    exact ⟨b5_, b8_⟩
  rw [if_pos c4] at H
  have c4b0 : decide (x5_1 < (l0.length : Int)) = true := decide_eq_true c4
  clear c4
  by_cases c5 : 0 ≤ x5_1
  rotate_left
  · rw [if_neg c5] at H
    exact absurd H (by simp)
  rw [if_pos c5] at H
  have c5b0 : decide (0 ≤ x5_1) = true := decide_eq_true c5
  clear c5
  by_cases c6 : x5_1 < (l1.length : Int)
  rotate_left
  · rw [if_neg c6] at H
    exact absurd H (by simp)
  rw [if_pos c6] at H
  have c6b0 : decide (x5_1 < (l1.length : Int)) = true := decide_eq_true c6
  clear c6
  by_cases c7 : (!(((rd_T54 l0 x5_1).f0) == ((rd_T54 l1 x5_1).f0)) || (!(((rd_T54 l0 x5_1).f1) == ((rd_T54 l1 x5_1).f1)))) = true
  · rw [if_pos c7] at H
    have c7b0 : (!(((rd_T54 l0 x5_1).f0) == ((rd_T54 l1 x5_1).f0)) || (!(((rd_T54 l0 x5_1).f1) == ((rd_T54 l1 x5_1).f1)))) = true := c7
    clear c7
    obtain rfl := Option.some.inj H
    have p256 : 0 ≤ (x5_1 : Int) := of_decide_eq_true b2_
    have q256 : x5_1 < (l0.length : Int) := of_decide_eq_true b2_
    obtain ⟨ad256, e256, hx256_0, hx256_1⟩ := at_T54 HR0.out x5_1 p256 q256
    cases e256
    replace p256 := eq_true p256
    replace q256 := eq_true q256
    have p257 : 0 ≤ (x5_1 : Int) := of_decide_eq_true b2_
    have q257 : x5_1 < (l1.length : Int) := of_decide_eq_true b2_
    obtain ⟨ad257, e257, hx257_0, hx257_1⟩ := at_T54 HR1.out x5_1 p257 q257
    cases e257
    replace p257 := eq_true p257
    replace q257 := eq_true q257
    go_wp2
    repeat (go_quiet (fail); try go_wp2)
    go_ret
    exact ⟨b5_, b8_⟩
  rw [if_neg c7] at H
  have c7b0 : (!(((rd_T54 l0 x5_1).f0) == ((rd_T54 l1 x5_1).f0)) || (!(((rd_T54 l0 x5_1).f1) == ((rd_T54 l1 x5_1).f1)))) = false := by simpa using c7
  clear c7
  have H' := Aside0.mk H
  clear H
  have p256 : 0 ≤ (x5_1 : Int) := of_decide_eq_true b2_
  have q256 : x5_1 < (l0.length : Int) := of_decide_eq_true b2_
  obtain ⟨ad256, e256, hx256_0, hx256_1⟩ := at_T54 HR0.out x5_1 p256 q256
  cases e256
  replace p256 := eq_true p256
  replace q256 := eq_true q256
  have p257 : 0 ≤ (x5_1 : Int) := of_decide_eq_true b2_
  have q257 : x5_1 < (l1.length : Int) := of_decide_eq_true b2_
  obtain ⟨ad257, e257, hx257_0, hx257_1⟩ := at_T54 HR1.out x5_1 p257 q257
  cases e257
  replace p257 := eq_true p257
  replace q257 := eq_true q257
  go_wp2
  repeat (go_quiet (fail); try go_wp2)
  go_roundg k1
  case measure => have := HK1.out; omega
  case rel => exact ⟨(wrap64 (x5_1 + 1)), b5_, H', ⟨(by have := HK1.out; omega)⟩, b8_⟩

end Go.Proofs.Ytcgdbjojjpoegaa.P

namespace Go.Proofs.Ytcgdbjojjpoegaa.P
open Go.RowKit Go.Proofs.YtcgdbjojjpoegaaW.PrintWords Go.Proofs.YtcgdbjojjpoegaaW.PrintLast Go.Proofs.YtcgdbjojjpoegaaW.PrintMore
attribute [local go_sem] max2_int min2_int max_two min_two max_three min_three max_four min_four   -- for this text's walks alone
set_option linter.unusedVariables false
set_option linter.unusedSimpArgs false

/-! ### forecourtref09_CheckTable: function 29 -/
mutual
def forecourtref09_CheckTable.j0 : Nat → Bool → Int → List (List Int) → Option (Int)
  | 0, _, _, _ => none
  | k + 1, x31, x259000, x259001 => if x31 = true then (some 6) else (forecourtref09_CheckTable.l0 k 0 x259000 x259001)
def forecourtref09_CheckTable.l0 : Nat → Int → Int → List (List Int) → Option (Int)
  | 0, _, _, _ => none
  | k + 1, x3, x259000, x259001 => if x3 < (x259001.length : Int) then (if 0 ≤ x3 then (if 0 < (x259001.length : Int) then (if ((rd_L2 x259001 x3).length : Int) = ((rd_L2 x259001 0).length : Int) then (forecourtref09_CheckTable.l0 k (wrap64 (x3 + 1)) x259000 x259001) else (some 15)) else (none)) else (none)) else (if x259000 < 1 then (forecourtref09_CheckTable.j2 k true x259000 x259001) else (forecourtref09_CheckTable.j2 k (decide (x259000 > 1000)) x259000 x259001))
def forecourtref09_CheckTable.j2 : Nat → Bool → Int → List (List Int) → Option (Int)
  | 0, _, _, _ => none
  | k + 1, x58, x259000, x259001 => if x58 = true then (some 2) else (forecourtref09_CheckTable.l1 k 0 x259000 x259001)
def forecourtref09_CheckTable.l1 : Nat → Int → Int → List (List Int) → Option (Int)
  | 0, _, _, _ => none
  | k + 1, x4, x259000, x259001 => if x4 < (x259001.length : Int) then (forecourtref09_CheckTable.l2 k x4 0 x259000 x259001) else (some 0)
def forecourtref09_CheckTable.l2 : Nat → Int → Int → Int → List (List Int) → Option (Int)
  | 0, _, _, _, _ => none
  | k + 1, x4, x5, x259000, x259001 => if 0 ≤ x4 then (if x4 < (x259001.length : Int) then (if x5 < ((rd_L2 x259001 x4).length : Int) then (if 0 ≤ x5 then (if (rd (rd_L2 x259001 x4) x5) < 0 then (some 3) else (if (rd (rd_L2 x259001 x4) x5) > 1000000 then (some 3) else (forecourtref09_CheckTable.l2 k x4 (wrap64 (x5 + 1)) x259000 x259001))) else (none)) else (forecourtref09_CheckTable.l1 k (wrap64 (x4 + 1)) x259000 x259001)) else (none)) else (none)
end
def forecourtref09_CheckTable.f (k : Nat) (a0_0 : Int) (l0_1 : List (List Int)) : Option (Int) := if (l0_1.length : Int) < 1 then (forecourtref09_CheckTable.j0 k true a0_0 l0_1) else (if (l0_1.length : Int) > 6 then (forecourtref09_CheckTable.j0 k true a0_0 l0_1) else (if 0 < (l0_1.length : Int) then (if ((rd_L2 l0_1 0).length : Int) < 1 then (forecourtref09_CheckTable.j0 k true a0_0 l0_1) else (forecourtref09_CheckTable.j0 k (decide (((rd_L2 l0_1 0).length : Int) > 6)) a0_0 l0_1)) else (none)))
theorem forecourtref09_CheckTable.mono_l : ∀ k, (∀ y0 y1 y2, LeO (forecourtref09_CheckTable.j0 k y0 y1 y2) (forecourtref09_CheckTable.j0 (k + 1) y0 y1 y2)) ∧ (∀ y0 y1 y2, LeO (forecourtref09_CheckTable.l0 k y0 y1 y2) (forecourtref09_CheckTable.l0 (k + 1) y0 y1 y2)) ∧ (∀ y0 y1 y2, LeO (forecourtref09_CheckTable.j2 k y0 y1 y2) (forecourtref09_CheckTable.j2 (k + 1) y0 y1 y2)) ∧ (∀ y0 y1 y2, LeO (forecourtref09_CheckTable.l1 k y0 y1 y2) (forecourtref09_CheckTable.l1 (k + 1) y0 y1 y2)) ∧ (∀ y0 y1 y2 y3, LeO (forecourtref09_CheckTable.l2 k y0 y1 y2 y3) (forecourtref09_CheckTable.l2 (k + 1) y0 y1 y2 y3))
  | 0 => ⟨fun _ _ _ r h => by simp [forecourtref09_CheckTable.j0] at h, fun _ _ _ r h => by simp [forecourtref09_CheckTable.l0] at h, fun _ _ _ r h => by simp [forecourtref09_CheckTable.j2] at h, fun _ _ _ r h => by simp [forecourtref09_CheckTable.l1] at h, fun _ _ _ _ r h => by simp [forecourtref09_CheckTable.l2] at h⟩
  | k + 1 => by
    obtain ⟨ih0, ih1, ih2, ih3, ih4⟩ := forecourtref09_CheckTable.mono_l k
    refine ⟨?_, ?_, ?_, ?_, ?_⟩
    · intro y0 y1 y2
      unfold forecourtref09_CheckTable.j0
      repeat' first
      | (with_reducible exact ih0 _ _ _)
      | (with_reducible exact ih1 _ _ _)
      | (with_reducible exact ih2 _ _ _)
      | (with_reducible exact ih3 _ _ _)
      | (with_reducible exact ih4 _ _ _ _)
      | (with_reducible exact LeO.refl _)
      | (with_reducible exact LeO.none _)
      | (with_reducible refine LeO.ite ?_ ?_)
      | (with_reducible refine LeO.bind ?_ (fun _ => ?_))
      | exact ih0 _ _ _
      | exact ih1 _ _ _
      | exact ih2 _ _ _
      | exact ih3 _ _ _
      | exact ih4 _ _ _ _
      | exact LeO.none _
      | refine LeO.ite ?_ ?_
      | refine LeO.bind ?_ (fun _ => ?_)
    · intro y0 y1 y2
      unfold forecourtref09_CheckTable.l0
      repeat' first
      | (with_reducible exact ih0 _ _ _)
      | (with_reducible exact ih1 _ _ _)
      | (with_reducible exact ih2 _ _ _)
      | (with_reducible exact ih3 _ _ _)
      | (with_reducible exact ih4 _ _ _ _)
      | (with_reducible exact LeO.refl _)
      | (with_reducible exact LeO.none _)
      | (with_reducible refine LeO.ite ?_ ?_)
      | (with_reducible refine LeO.bind ?_ (fun _ => ?_))
      | exact ih0 _ _ _
      | exact ih1 _ _ _
      | exact ih2 _ _ _
      | exact ih3 _ _ _
      | exact ih4 _ _ _ _
      | exact LeO.none _
      | refine LeO.ite ?_ ?_
      | refine LeO.bind ?_ (fun _ => ?_)
    · intro y0 y1 y2
      unfold forecourtref09_CheckTable.j2
      repeat' first
      | (with_reducible exact ih0 _ _ _)
      | (with_reducible exact ih1 _ _ _)
      | (with_reducible exact ih2 _ _ _)
      | (with_reducible exact ih3 _ _ _)
      | (with_reducible exact ih4 _ _ _ _)
      | (with_reducible exact LeO.refl _)
      | (with_reducible exact LeO.none _)
      | (with_reducible refine LeO.ite ?_ ?_)
      | (with_reducible refine LeO.bind ?_ (fun _ => ?_))
      | exact ih0 _ _ _
      | exact ih1 _ _ _
      | exact ih2 _ _ _
      | exact ih3 _ _ _
      | exact ih4 _ _ _ _
      | exact LeO.none _
      | refine LeO.ite ?_ ?_
      | refine LeO.bind ?_ (fun _ => ?_)
    · intro y0 y1 y2
      unfold forecourtref09_CheckTable.l1
      repeat' first
      | (with_reducible exact ih0 _ _ _)
      | (with_reducible exact ih1 _ _ _)
      | (with_reducible exact ih2 _ _ _)
      | (with_reducible exact ih3 _ _ _)
      | (with_reducible exact ih4 _ _ _ _)
      | (with_reducible exact LeO.refl _)
      | (with_reducible exact LeO.none _)
      | (with_reducible refine LeO.ite ?_ ?_)
      | (with_reducible refine LeO.bind ?_ (fun _ => ?_))
      | exact ih0 _ _ _
      | exact ih1 _ _ _
      | exact ih2 _ _ _
      | exact ih3 _ _ _
      | exact ih4 _ _ _ _
      | exact LeO.none _
      | refine LeO.ite ?_ ?_
      | refine LeO.bind ?_ (fun _ => ?_)
    · intro y0 y1 y2 y3
      unfold forecourtref09_CheckTable.l2
      repeat' first
      | (with_reducible exact ih0 _ _ _)
      | (with_reducible exact ih1 _ _ _)
      | (with_reducible exact ih2 _ _ _)
      | (with_reducible exact ih3 _ _ _)
      | (with_reducible exact ih4 _ _ _ _)
      | (with_reducible exact LeO.refl _)
      | (with_reducible exact LeO.none _)
      | (with_reducible refine LeO.ite ?_ ?_)
      | (with_reducible refine LeO.bind ?_ (fun _ => ?_))
      | exact ih0 _ _ _
      | exact ih1 _ _ _
      | exact ih2 _ _ _
      | exact ih3 _ _ _
      | exact ih4 _ _ _ _
      | exact LeO.none _
      | refine LeO.ite ?_ ?_
      | refine LeO.bind ?_ (fun _ => ?_)
theorem forecourtref09_CheckTable.mono : ∀ a0 a1 k, LeO (forecourtref09_CheckTable.f k a0 a1) (forecourtref09_CheckTable.f (k + 1) a0 a1) := by
  intro a0 a1 k
  obtain ⟨ih0, ih1, ih2, ih3, ih4⟩ := forecourtref09_CheckTable.mono_l k
  unfold forecourtref09_CheckTable.f
  repeat' first
      | (with_reducible exact ih0 _ _ _)
      | (with_reducible exact ih1 _ _ _)
      | (with_reducible exact ih2 _ _ _)
      | (with_reducible exact ih3 _ _ _)
      | (with_reducible exact ih4 _ _ _ _)
      | (with_reducible exact LeO.refl _)
      | (with_reducible exact LeO.none _)
      | (with_reducible refine LeO.ite ?_ ?_)
      | (with_reducible refine LeO.bind ?_ (fun _ => ?_))
      | exact ih0 _ _ _
      | exact ih1 _ _ _
      | exact ih2 _ _ _
      | exact ih3 _ _ _
      | exact ih4 _ _ _ _
      | exact LeO.none _
      | refine LeO.ite ?_ ?_
      | refine LeO.bind ?_ (fun _ => ?_)
set_option maxHeartbeats 8000000 in
set_option maxRecDepth 100000 in
theorem forecourtref09_CheckTable.calls (k : Nat) (a0_0 : Int) (A0_1 : Option Addr) (c0_1 : Nat) (l0_1 : List (List Int)) (r : Int) (w : World) (hr0_1 : Kd.C (Kd.slice 2 (Kd.int .i64)) w A0_1 l0_1.length l0_1) (hc0_1 : l0_1.length ≤ c0_1) (h : forecourtref09_CheckTable.f k a0_0 l0_1 = some r) :
    Calls Try.prog 29 #[.agg #[.int .i64 a0_0, .slice A0_1 l0_1.length c0_1]] w fun e w' => e = .returned (.int .i64 r) ∧ Below w.heap.size w w' := by
  have hu39 := Try.underlying39
  have HR0_1 := Aside0.mk hr0_1
  have HC0_1 := Aside0.mk hc0_1
  clear hr0_1 hc0_1
  have HB := Aside0.mk (Below.refl w.heap.size w)
  have H : (if (l0_1.length : Int) < 1 then (forecourtref09_CheckTable.j0 k true a0_0 l0_1) else (if (l0_1.length : Int) > 6 then (forecourtref09_CheckTable.j0 k true a0_0 l0_1) else (if 0 < (l0_1.length : Int) then (if ((rd_L2 l0_1 0).length : Int) < 1 then (forecourtref09_CheckTable.j0 k true a0_0 l0_1) else (forecourtref09_CheckTable.j0 k (decide (((rd_L2 l0_1 0).length : Int) > 6)) a0_0 l0_1)) else (none)))) = some r := h
  clear h
  have HC2 := Aside0.mk H
  clear H
  go_enter Try.func29, Try.ntmps29
  go_upto_region 1 with (first | ((with_reducible refine gate_dst (N := 1) rfl ?_); (try (refine gate_guard (by rfl) ?_; dsimp only)); refine bx_ (cs := #[.int .i64 a0_0, .slice A0_1 l0_1.length c0_1]) (t := 39) (fun gb258 w3 BK258 GE258 HB => ?_)))
  (try simp only [Act.put, List.setIfInBounds_toArray, List.set_cons_zero, List.set_cons_succ])
  go_cut [31] (fun v31 wc => ∃ (kq : Nat) (x31_1 : Bool), v31 = .bool x31_1 ∧ Aside0 (forecourtref09_CheckTable.j0 kq x31_1 a0_0 l0_1 = some r) ∧ Aside0 (kq ≤ k) ∧ Aside0 (wc.heap[gb258]? = some (.cells #[.int .i64 a0_0, (.slice A0_1 l0_1.length c0_1)] 39 (0, 0))) ∧ Aside0 (Below w.heap.size w wc))
  case first =>
    have H := HC2.out
    clear HC2
    by_cases c4 : (l0_1.length : Int) < 1
    · rw [if_pos c4] at H
      have c4b0 : decide ((l0_1.length : Int) < 1) = true := decide_eq_true c4
      have c4b1 : decide (l0_1.length < 1) = true := decide_eq_true (by omega)
      clear c4
      (first | rw [c4b0] | (simp only [i64_w, i32_w]; rw [c4b0]) | skip)
      have H' := Aside0.mk H
      clear H
      obtain ⟨hcz5_0, hcz5_1, hfz5_0, hfz5_1⟩ := cz2_ BK258.out
      go_wp2
      go_meet
      case rel => exact ⟨_, (true), b5_, H', ⟨b26_⟩, ⟨b17_⟩, ⟨b1_⟩⟩
    rw [if_neg c4] at H
    have c4b0 : decide ((l0_1.length : Int) < 1) = false := decide_eq_false c4
    have c4b1 : decide (l0_1.length < 1) = false := decide_eq_false (by omega)
    clear c4
    (first | rw [c4b0] | (simp only [i64_w, i32_w]; rw [c4b0]) | skip)
    by_cases c6 : (l0_1.length : Int) > 6
    · rw [if_pos c6] at H
      have c6b0 : decide (6 < (l0_1.length : Int)) = true := decide_eq_true c6
      have c6b1 : decide (6 < l0_1.length) = true := decide_eq_true (by omega)
      clear c6
      have H' := Aside0.mk H
      clear H
      obtain ⟨hcz7_0, hcz7_1, hfz7_0, hfz7_1⟩ := cz2_ BK258.out
      go_wp2
      go_meet
      case rel => exact ⟨_, (true), b5_, H', ⟨b26_⟩, ⟨b17_⟩, ⟨b1_⟩⟩
    rw [if_neg c6] at H
    have c6b0 : decide (6 < (l0_1.length : Int)) = false := decide_eq_false c6
    have c6b1 : decide (6 < l0_1.length) = false := decide_eq_false (by omega)
    clear c6
    by_cases c8 : 0 < (l0_1.length : Int)
    rotate_left
    · rw [if_neg c8] at H
      exact absurd H (by simp)
    rw [if_pos c8] at H
    have c8b0 : decide (0 < (l0_1.length : Int)) = true := decide_eq_true c8
    have c8b1 : decide (0 < l0_1.length) = true := decide_eq_true (by omega)
    clear c8
    by_cases c9 : ((rd_L2 l0_1 0).length : Int) < 1
    · rw [if_pos c9] at H
      have c9b0 : decide (((rd_L2 l0_1 0).length : Int) < 1) = true := decide_eq_true c9
      have c9b1 : decide ((rd_L2 l0_1 0).length < 1) = true := decide_eq_true (by omega)
      clear c9
      have H' := Aside0.mk H
      clear H
      obtain ⟨hcz10_0, hcz10_1, hfz10_0, hfz10_1⟩ := cz2_ BK258.out
      have p259 : 0 ≤ (0 : Int) := (by omega)
      have q259 : 0 < (l0_1.length : Int) := of_decide_eq_true b2_
      obtain ⟨ad259, A259_0, c259_0, e259, hx259_0, hl259_0, hi259_0⟩ := at_L2 HR0_1.out 0 p259 q259
      cases e259
      have qi259 : (0 < l0_1.length) = True := eq_true (by omega)
      (try rw [show ((0 : Int)).toNat = 0 from rfl] at hx259_0)
      (try rw [Addr.add_zero'] at hx259_0)
      replace hx259_0 := (HB.out.cell (World.block_lt_of_cell? w _ hx259_0)).trans hx259_0
      have HR259_0 := Aside0.mk hi259_0
      have HC259_0 := Aside0.mk hl259_0
      clear hi259_0 hl259_0
      replace p259 := eq_true p259
      replace q259 := eq_true q259
      go_wp2
      go_meet
      case rel => exact ⟨_, (true), b5_, H', ⟨b26_⟩, ⟨b17_⟩, ⟨b1_⟩⟩
    rw [if_neg c9] at H
    have c9b0 : decide (((rd_L2 l0_1 0).length : Int) < 1) = false := decide_eq_false c9
    have c9b1 : decide ((rd_L2 l0_1 0).length < 1) = false := decide_eq_false (by omega)
    clear c9
    have H' := Aside0.mk H
    clear H
    obtain ⟨hcz11_0, hcz11_1, hfz11_0, hfz11_1⟩ := cz2_ BK258.out
    have p259 : 0 ≤ (0 : Int) := (by omega)
    have q259 : 0 < (l0_1.length : Int) := of_decide_eq_true b2_
    obtain ⟨ad259, A259_0, c259_0, e259, hx259_0, hl259_0, hi259_0⟩ := at_L2 HR0_1.out 0 p259 q259
    cases e259
    have qi259 : (0 < l0_1.length) = True := eq_true (by omega)
    (try rw [show ((0 : Int)).toNat = 0 from rfl] at hx259_0)
    (try rw [Addr.add_zero'] at hx259_0)
    replace hx259_0 := (HB.out.cell (World.block_lt_of_cell? w _ hx259_0)).trans hx259_0
    have HR259_0 := Aside0.mk hi259_0
    have HC259_0 := Aside0.mk hl259_0
    clear hi259_0 hl259_0
    replace p259 := eq_true p259
    replace q259 := eq_true q259
    have p260 : 0 ≤ (0 : Int) := (by omega)
    have q260 : 0 < (l0_1.length : Int) := of_decide_eq_true b2_
    obtain ⟨ad260, A260_0, c260_0, e260, hx260_0, hl260_0, hi260_0⟩ := at_L2 HR0_1.out 0 p260 q260
    obtain rfl : ad259 = ad260 := (by injection e260)
    have qi260 : (0 < l0_1.length) = True := eq_true (by omega)
    (try rw [show ((0 : Int)).toNat = 0 from rfl] at hx260_0)
    (try rw [Addr.add_zero'] at hx260_0)
    replace hx260_0 := (HB.out.cell (World.block_lt_of_cell? w _ hx260_0)).trans hx260_0
    have HR260_0 := Aside0.mk hi260_0
    have HC260_0 := Aside0.mk hl260_0
    clear hi260_0 hl260_0
    replace p260 := eq_true p260
    replace q260 := eq_true q260
    have ea_ := Option.some.inj (hx259_0.symm.trans hx260_0)
    injection ea_ with ea_ en_ ec_
    subst ea_
    subst ec_
    clear en_
    go_wp2
    go_meet
    case rel => exact ⟨_, (decide (((rd_L2 l0_1 0).length : Int) > 6)), b5_, H', ⟨b26_⟩, ⟨b17_⟩, ⟨b1_⟩⟩
  clear HC2
  try clear c2
  try clear p2
  try clear q2
  try clear hx2
  try clear qi2
  try clear c4
  try clear c4b0
  try clear c4b1
  try clear c6
  try clear c6b0
  try clear c6b1
  try clear c8
  try clear c8b0
  try clear c8b1
  try clear c9
  try clear c9b0
  try clear c9b1
  try clear hcz10_0
  try clear hcz10_1
  try clear hcz11_0
  try clear hcz11_1
  try clear hcz5_0
  try clear hcz5_1
  try clear hcz7_0
  try clear hcz7_1
  try clear hfz10_0
  try clear hfz10_1
  try clear hfz11_0
  try clear hfz11_1
  try clear hfz5_0
  try clear hfz5_1
  try clear hfz7_0
  try clear hfz7_1
  try clear hx259_0
  try clear hx260_0
  try clear p259
  try clear p260
  try clear q259
  try clear q260
  obtain ⟨kq, x31_1, rfl, HA, HJ1, BK258, HB⟩ := hcut
  cases kq with
  | zero => exact absurd HA.out (by simp [forecourtref09_CheckTable.j0])
  | succ kj1 => ?_
  have H := HA.out
  clear HA
  simp only [forecourtref09_CheckTable.j0] at H
  by_cases c12 : x31_1 = true
  · subst c12
    have H1 : (some 6) = some r := by rw [if_pos rfl] at H; exact H
    clear H
    have H := H1
    clear H1
    obtain rfl := Option.some.inj H
    go_wp2
    go_ret
    exact ⟨b4_, b1_⟩
  replace c12 := Bool.eq_false_iff.mpr c12
  subst c12
  have H1 : (forecourtref09_CheckTable.l0 kj1 0 a0_0 l0_1) = some r := by rw [if_neg (show ¬ (false = true) by decide)] at H; exact H
  clear H
  have H := H1
  clear H1
  have H' := Aside0.mk H
  clear H
  go_wp2
  go_loopg [3] kj1 (fun kq v3 w' => ∃ (x3_2 : Int), v3 = .int .i64 x3_2 ∧ Aside0 (forecourtref09_CheckTable.l0 kq x3_2 a0_0 l0_1 = some r) ∧ Aside0 (kq ≤ kj1) ∧ Aside0 (w'.heap[gb258]? = some (.cells #[.int .i64 a0_0, (.slice A0_1 l0_1.length c0_1)] 39 (0, 0))) ∧ Aside0 (Below w.heap.size w w'))
  case atStart => exact ⟨(0), b5_, H', ⟨Nat.le_refl _⟩, ⟨b17_⟩, ⟨b1_⟩⟩
  clear H'
  try clear c1
  try clear c2
  try clear p2
  try clear q2
  try clear hx2
  try clear qi2
  try clear c4
  try clear c4b0
  try clear c4b1
  try clear c6
  try clear c6b0
  try clear c6b1
  try clear c8
  try clear c8b0
  try clear c8b1
  try clear c9
  try clear c9b0
  try clear c9b1
  try clear c12
  try clear hcz10_0
  try clear hcz10_1
  try clear hcz11_0
  try clear hcz11_1
  try clear hcz5_0
  try clear hcz5_1
  try clear hcz7_0
  try clear hcz7_1
  try clear hfz10_0
  try clear hfz10_1
  try clear hfz11_0
  try clear hfz11_1
  try clear hfz5_0
  try clear hfz5_1
  try clear hfz7_0
  try clear hfz7_1
  try clear hx259_0
  try clear hx260_0
  try clear p2
  try clear p259
  try clear p260
  try clear q2
  try clear q259
  try clear q260
  obtain ⟨x3_2, rfl, HA, HK2, BK258, HB⟩ := hrel
  cases gk with
  | zero => exact absurd HA.out (by simp [forecourtref09_CheckTable.l0])
  | succ k2 => ?_
  have H := HA.out
  clear HA
  simp only [forecourtref09_CheckTable.l0] at H
  by_cases c13 : x3_2 < (l0_1.length : Int)
  · rw [if_pos c13] at H
    have c13b0 : decide (x3_2 < (l0_1.length : Int)) = true := decide_eq_true c13
    clear c13
    by_cases c14 : 0 ≤ x3_2
    rotate_left
    · rw [if_neg c14] at H
      exact absurd H (by simp)
    rw [if_pos c14] at H
    have c14b0 : decide (0 ≤ x3_2) = true := decide_eq_true c14
    clear c14
    by_cases c15 : 0 < (l0_1.length : Int)
    rotate_left
    · rw [if_neg c15] at H
      exact absurd H (by simp)
    rw [if_pos c15] at H
    have c15b0 : decide (0 < (l0_1.length : Int)) = true := decide_eq_true c15
    have c15b1 : decide (0 < l0_1.length) = true := decide_eq_true (by omega)
    clear c15
    by_cases c16 : ((rd_L2 l0_1 x3_2).length : Int) = ((rd_L2 l0_1 0).length : Int)
    rotate_left
    · rw [if_neg c16] at H
      have c16b0 : (((rd_L2 l0_1 x3_2).length : Int) == ((rd_L2 l0_1 0).length : Int)) = false := beq_eq_false_iff_ne.mpr c16
      have c16b1 : (((rd_L2 l0_1 x3_2).length : Int) != ((rd_L2 l0_1 0).length : Int)) = true := bne_iff_ne.mpr c16
      have c16b2 : ((rd_L2 l0_1 x3_2).length == (rd_L2 l0_1 0).length) = false := by first | simpa using c16 | (simp at c16 ⊢; omega)
      obtain rfl := Option.some.inj H
      obtain ⟨hcz18_0, hcz18_1, hfz18_0, hfz18_1⟩ := cz2_ BK258.out
      have p261 : 0 ≤ (x3_2 : Int) := of_decide_eq_true b2_
      have q261 : x3_2 < (l0_1.length : Int) := of_decide_eq_true b2_
      obtain ⟨ad261, A261_0, c261_0, e261, hx261_0, hl261_0, hi261_0⟩ := at_L2 HR0_1.out x3_2 p261 q261
      cases e261
      replace hx261_0 := (HB.out.cell (World.block_lt_of_cell? w _ hx261_0)).trans hx261_0
      have HR261_0 := Aside0.mk hi261_0
      have HC261_0 := Aside0.mk hl261_0
      clear hi261_0 hl261_0
      replace p261 := eq_true p261
      replace q261 := eq_true q261
      have p262 : 0 ≤ (0 : Int) := (by omega)
      have q262 : 0 < (l0_1.length : Int) := of_decide_eq_true b2_
      obtain ⟨ad262, A262_0, c262_0, e262, hx262_0, hl262_0, hi262_0⟩ := at_L2 HR0_1.out 0 p262 q262
      obtain rfl : ad261 = ad262 := (by injection e262)
      have qi262 : (0 < l0_1.length) = True := eq_true (by omega)
      (try rw [show ((0 : Int)).toNat = 0 from rfl] at hx262_0)
      (try rw [Addr.add_zero'] at hx262_0)
      replace hx262_0 := (HB.out.cell (World.block_lt_of_cell? w _ hx262_0)).trans hx262_0
      have HR262_0 := Aside0.mk hi262_0
      have HC262_0 := Aside0.mk hl262_0
      clear hi262_0 hl262_0
      replace p262 := eq_true p262
      replace q262 := eq_true q262
      go_wp2
      repeat (go_quiet (fail); try go_wp2)
      go_ret
      exact ⟨b4_, b1_⟩
    rw [if_pos c16] at H
    have c16b0 : (((rd_L2 l0_1 x3_2).length : Int) == ((rd_L2 l0_1 0).length : Int)) = true := beq_iff_eq.mpr c16
    have c16b1 : (((rd_L2 l0_1 x3_2).length : Int) != ((rd_L2 l0_1 0).length : Int)) = false := bne_eq_false_iff_eq.mpr c16
    have c16b2 : ((rd_L2 l0_1 x3_2).length == (rd_L2 l0_1 0).length) = true := by first | simpa using c16 | (simp at c16 ⊢; omega)
    clear c16
    have H' := Aside0.mk H
    clear H
    obtain ⟨hcz17_0, hcz17_1, hfz17_0, hfz17_1⟩ := cz2_ BK258.out
    have p261 : 0 ≤ (x3_2 : Int) := of_decide_eq_true b2_
    have q261 : x3_2 < (l0_1.length : Int) := of_decide_eq_true b2_
    obtain ⟨ad261, A261_0, c261_0, e261, hx261_0, hl261_0, hi261_0⟩ := at_L2 HR0_1.out x3_2 p261 q261
    cases e261
    replace hx261_0 := (HB.out.cell (World.block_lt_of_cell? w _ hx261_0)).trans hx261_0
    have HR261_0 := Aside0.mk hi261_0
    have HC261_0 := Aside0.mk hl261_0
    clear hi261_0 hl261_0
    replace p261 := eq_true p261
    replace q261 := eq_true q261
    have p262 : 0 ≤ (0 : Int) := (by omega)
    have q262 : 0 < (l0_1.length : Int) := of_decide_eq_true b2_
    obtain ⟨ad262, A262_0, c262_0, e262, hx262_0, hl262_0, hi262_0⟩ := at_L2 HR0_1.out 0 p262 q262
    obtain rfl : ad261 = ad262 := (by injection e262)
    have qi262 : (0 < l0_1.length) = True := eq_true (by omega)
    (try rw [show ((0 : Int)).toNat = 0 from rfl] at hx262_0)
    (try rw [Addr.add_zero'] at hx262_0)
    replace hx262_0 := (HB.out.cell (World.block_lt_of_cell? w _ hx262_0)).trans hx262_0
    have HR262_0 := Aside0.mk hi262_0
    have HC262_0 := Aside0.mk hl262_0
    clear hi262_0 hl262_0
    replace p262 := eq_true p262
    replace q262 := eq_true q262
    go_wp2
    repeat (go_quiet (fail); try go_wp2)
    go_roundg k2
    case measure => have := HJ1.out; have := HK2.out; omega
    case rel => exact ⟨(wrap64 (x3_2 + 1)), b5_, H', ⟨(by have := HJ1.out; have := HK2.out; omega)⟩, ⟨b17_⟩, ⟨b1_⟩⟩
  rw [if_neg c13] at H
  have c13b0 : decide (x3_2 < (l0_1.length : Int)) = false := decide_eq_false c13
  clear c13
  have HC19 := Aside0.mk H
  clear H
  obtain ⟨hcz20_0, hcz20_1, hfz20_0, hfz20_1⟩ := cz2_ BK258.out
  go_upto_region 8 with (fail)
  go_cut [58] (fun v58 wc => ∃ (kq : Nat) (x58_18 : Bool), v58 = .bool x58_18 ∧ Aside0 (forecourtref09_CheckTable.j2 kq x58_18 a0_0 l0_1 = some r) ∧ Aside0 (kq ≤ k2) ∧ Aside0 (wc.heap[gb258]? = some (.cells #[.int .i64 a0_0, (.slice A0_1 l0_1.length c0_1)] 39 (0, 0))) ∧ Aside0 (Below w.heap.size w wc))
  case first =>
    have H := HC19.out
    clear HC19
    by_cases c21 : a0_0 < 1
    · rw [if_pos c21] at H
      have c21b0 : decide (a0_0 < 1) = true := decide_eq_true c21
      clear c21
      (first | rw [c21b0] | (simp only [i64_w, i32_w]; rw [c21b0]) | skip)
      have H' := Aside0.mk H
      clear H
      obtain ⟨hcz22_0, hcz22_1, hfz22_0, hfz22_1⟩ := cz2_ BK258.out
      go_wp2
      go_meet
      case rel => exact ⟨_, (true), b5_, H', ⟨(by have := HJ1.out; have := HK2.out; first | omega | exact Nat.le_refl _)⟩, ⟨b17_⟩, ⟨b1_⟩⟩
    rw [if_neg c21] at H
    have c21b0 : decide (a0_0 < 1) = false := decide_eq_false c21
    clear c21
    (first | rw [c21b0] | (simp only [i64_w, i32_w]; rw [c21b0]) | skip)
    have H' := Aside0.mk H
    clear H
    obtain ⟨hcz23_0, hcz23_1, hfz23_0, hfz23_1⟩ := cz2_ BK258.out
    go_wp2
    go_meet
    case rel => exact ⟨_, (decide (a0_0 > 1000)), b5_, H', ⟨(by have := HJ1.out; have := HK2.out; first | omega | exact Nat.le_refl _)⟩, ⟨b17_⟩, ⟨b1_⟩⟩
  clear HC19
  try clear c1
  try clear c2
  try clear p2
  try clear q2
  try clear hx2
  try clear qi2
  try clear c4
  try clear c4b0
  try clear c4b1
  try clear c6
  try clear c6b0
  try clear c6b1
  try clear p6
  try clear c8
  try clear c8b0
  try clear c8b1
  try clear c9
  try clear c9b0
  try clear c9b1
  try clear c12
  try clear c13
  try clear c13b0
  try clear c14
  try clear c14b0
  try clear c15
  try clear c15b0
  try clear c15b1
  try clear c16
  try clear c16b0
  try clear c16b1
  try clear c16b2
  try clear c21
  try clear c21b0
  try clear hcz10_0
  try clear hcz10_1
  try clear hcz11_0
  try clear hcz11_1
  try clear hcz17_0
  try clear hcz17_1
  try clear hcz18_0
  try clear hcz18_1
  try clear hcz20_0
  try clear hcz20_1
  try clear hcz22_0
  try clear hcz22_1
  try clear hcz23_0
  try clear hcz23_1
  try clear hcz5_0
  try clear hcz5_1
  try clear hcz7_0
  try clear hcz7_1
  try clear hfz10_0
  try clear hfz10_1
  try clear hfz11_0
  try clear hfz11_1
  try clear hfz17_0
  try clear hfz17_1
  try clear hfz18_0
  try clear hfz18_1
  try clear hfz20_0
  try clear hfz20_1
  try clear hfz22_0
  try clear hfz22_1
  try clear hfz23_0
  try clear hfz23_1
  try clear hfz5_0
  try clear hfz5_1
  try clear hfz7_0
  try clear hfz7_1
  try clear hx259_0
  try clear hx260_0
  try clear hx261_0
  try clear hx262_0
  try clear p2
  try clear p259
  try clear p260
  try clear p261
  try clear p262
  try clear q2
  try clear q259
  try clear q260
  try clear q261
  try clear q262
  obtain ⟨kq, x58_18, rfl, HA, HJ18, BK258, HB⟩ := hcut
  cases kq with
  | zero => exact absurd HA.out (by simp [forecourtref09_CheckTable.j2])
  | succ kj18 => ?_
  have H := HA.out
  clear HA
  simp only [forecourtref09_CheckTable.j2] at H
  by_cases c24 : x58_18 = true
  · subst c24
    have H1 : (some 2) = some r := by rw [if_pos rfl] at H; exact H
    clear H
    have H := H1
    clear H1
    obtain rfl := Option.some.inj H
    go_wp2
    go_ret
    exact ⟨b4_, b1_⟩
  replace c24 := Bool.eq_false_iff.mpr c24
  subst c24
  have H1 : (forecourtref09_CheckTable.l1 kj18 0 a0_0 l0_1) = some r := by rw [if_neg (show ¬ (false = true) by decide)] at H; exact H
  clear H
  have H := H1
  clear H1
  have H' := Aside0.mk H
  clear H
  go_wp2
  go_loopg [4] kj18 (fun kq v4 w' => ∃ (x4_4 : Int), v4 = .int .i64 x4_4 ∧ Aside0 (forecourtref09_CheckTable.l1 kq x4_4 a0_0 l0_1 = some r) ∧ Aside0 (kq ≤ kj18) ∧ Aside0 (w'.heap[gb258]? = some (.cells #[.int .i64 a0_0, (.slice A0_1 l0_1.length c0_1)] 39 (0, 0))) ∧ Aside0 (Below w.heap.size w w'))
  case atStart => exact ⟨(0), b5_, H', ⟨Nat.le_refl _⟩, ⟨b17_⟩, ⟨b1_⟩⟩
  clear H'
  try clear c1
  try clear c2
  try clear p2
  try clear q2
  try clear hx2
  try clear qi2
  try clear c4
  try clear c4b0
  try clear c4b1
  try clear c6
  try clear c6b0
  try clear c6b1
  try clear p6
  try clear c8
  try clear c8b0
  try clear c8b1
  try clear c9
  try clear c9b0
  try clear c9b1
  try clear c12
  try clear c13
  try clear c13b0
  try clear c14
  try clear c14b0
  try clear c15
  try clear c15b0
  try clear c15b1
  try clear c16
  try clear c16b0
  try clear c16b1
  try clear c16b2
  try clear c21
  try clear c21b0
  try clear c24
  try clear hcz10_0
  try clear hcz10_1
  try clear hcz11_0
  try clear hcz11_1
  try clear hcz17_0
  try clear hcz17_1
  try clear hcz18_0
  try clear hcz18_1
  try clear hcz20_0
  try clear hcz20_1
  try clear hcz22_0
  try clear hcz22_1
  try clear hcz23_0
  try clear hcz23_1
  try clear hcz5_0
  try clear hcz5_1
  try clear hcz7_0
  try clear hcz7_1
  try clear hfz10_0
  try clear hfz10_1
  try clear hfz11_0
  try clear hfz11_1
  try clear hfz17_0
  try clear hfz17_1
  try clear hfz18_0
  try clear hfz18_1
  try clear hfz20_0
  try clear hfz20_1
  try clear hfz22_0
  try clear hfz22_1
  try clear hfz23_0
  try clear hfz23_1
  try clear hfz5_0
  try clear hfz5_1
  try clear hfz7_0
  try clear hfz7_1
  try clear hx259_0
  try clear hx260_0
  try clear hx261_0
  try clear hx262_0
  try clear p2
  try clear p259
  try clear p260
  try clear p261
  try clear p262
  try clear p6
  try clear q2
  try clear q259
  try clear q260
  try clear q261
  try clear q262
  obtain ⟨x4_4, rfl, HA, HK4, BK258, HB⟩ := hrel
  cases gk with
  | zero => exact absurd HA.out (by simp [forecourtref09_CheckTable.l1])
  | succ k4 => ?_
  have H := HA.out
  clear HA
  simp only [forecourtref09_CheckTable.l1] at H
  by_cases c25 : x4_4 < (l0_1.length : Int)
  rotate_left
  · rw [if_neg c25] at H
    have c25b0 : decide (x4_4 < (l0_1.length : Int)) = false := decide_eq_false c25
    clear c25
    obtain rfl := Option.some.inj H
    obtain ⟨hcz37_0, hcz37_1, hfz37_0, hfz37_1⟩ := cz2_ BK258.out
    go_wp2
    go_ret
    exact ⟨b4_, b1_⟩
  rw [if_pos c25] at H
  have c25b0 : decide (x4_4 < (l0_1.length : Int)) = true := decide_eq_true c25
  clear c25
  have H' := Aside0.mk H
  clear H
  obtain ⟨hcz26_0, hcz26_1, hfz26_0, hfz26_1⟩ := cz2_ BK258.out
  go_wp2
  go_loopg [5] k4 (fun kq v5 w' => ∃ (x5_5 : Int), v5 = .int .i64 x5_5 ∧ Aside0 (forecourtref09_CheckTable.l2 kq x4_4 x5_5 a0_0 l0_1 = some r) ∧ Aside0 (kq ≤ k4) ∧ Aside0 (w'.heap[gb258]? = some (.cells #[.int .i64 a0_0, (.slice A0_1 l0_1.length c0_1)] 39 (0, 0))) ∧ Aside0 (Below w.heap.size w w'))
  case atStart => exact ⟨(0), b5_, H', ⟨Nat.le_refl _⟩, ⟨b17_⟩, ⟨b1_⟩⟩
  clear H'
  try clear c1
  try clear c2
  try clear p2
  try clear q2
  try clear hx2
  try clear qi2
  try clear c4
  try clear c4b0
  try clear c4b1
  try clear c6
  try clear c6b0
  try clear c6b1
  try clear p6
  try clear c8
  try clear c8b0
  try clear c8b1
  try clear c9
  try clear c9b0
  try clear c9b1
  try clear c12
  try clear c13
  try clear c13b0
  try clear c14
  try clear c14b0
  try clear c15
  try clear c15b0
  try clear c15b1
  try clear c16
  try clear c16b0
  try clear c16b1
  try clear c16b2
  try clear c21
  try clear c21b0
  try clear c24
  try clear c25
  try clear c25b0
  try clear p25
  try clear q25
  try clear hx25
  try clear qi25
  try clear c26
  try clear p26
  try clear q26
  try clear hx26
  try clear qi26
  try clear hcz10_0
  try clear hcz10_1
  try clear hcz11_0
  try clear hcz11_1
  try clear hcz17_0
  try clear hcz17_1
  try clear hcz18_0
  try clear hcz18_1
  try clear hcz20_0
  try clear hcz20_1
  try clear hcz22_0
  try clear hcz22_1
  try clear hcz23_0
  try clear hcz23_1
  try clear hcz26_0
  try clear hcz26_1
  try clear hcz5_0
  try clear hcz5_1
  try clear hcz7_0
  try clear hcz7_1
  try clear hfz10_0
  try clear hfz10_1
  try clear hfz11_0
  try clear hfz11_1
  try clear hfz17_0
  try clear hfz17_1
  try clear hfz18_0
  try clear hfz18_1
  try clear hfz20_0
  try clear hfz20_1
  try clear hfz22_0
  try clear hfz22_1
  try clear hfz23_0
  try clear hfz23_1
  try clear hfz26_0
  try clear hfz26_1
  try clear hfz5_0
  try clear hfz5_1
  try clear hfz7_0
  try clear hfz7_1
  try clear hx259_0
  try clear hx260_0
  try clear hx261_0
  try clear hx262_0
  try clear p2
  try clear p259
  try clear p260
  try clear p261
  try clear p262
  try clear p6
  try clear q2
  try clear q259
  try clear q260
  try clear q261
  try clear q262
  obtain ⟨x5_5, rfl, HA, HK5, BK258, HB⟩ := hrel
  cases gk with
  | zero => exact absurd HA.out (by simp [forecourtref09_CheckTable.l2])
  | succ k5 => ?_
  have H := HA.out
  clear HA
  simp only [forecourtref09_CheckTable.l2] at H
  by_cases c27 : 0 ≤ x4_4
  rotate_left
  · rw [if_neg c27] at H
    exact absurd H (by simp)
  rw [if_pos c27] at H
  have c27b0 : decide (0 ≤ x4_4) = true := decide_eq_true c27
  clear c27
  by_cases c28 : x4_4 < (l0_1.length : Int)
  rotate_left
  · rw [if_neg c28] at H
    exact absurd H (by simp)
  rw [if_pos c28] at H
  have c28b0 : decide (x4_4 < (l0_1.length : Int)) = true := decide_eq_true c28
  clear c28
  by_cases c29 : x5_5 < ((rd_L2 l0_1 x4_4).length : Int)
  rotate_left
  · rw [if_neg c29] at H
    have c29b0 : decide (x5_5 < ((rd_L2 l0_1 x4_4).length : Int)) = false := decide_eq_false c29
    clear c29
    have H' := Aside0.mk H
    clear H
    obtain ⟨hcz36_0, hcz36_1, hfz36_0, hfz36_1⟩ := cz2_ BK258.out
    have p263 : 0 ≤ (x4_4 : Int) := of_decide_eq_true b2_
    have q263 : x4_4 < (l0_1.length : Int) := of_decide_eq_true b2_
    obtain ⟨ad263, A263_0, c263_0, e263, hx263_0, hl263_0, hi263_0⟩ := at_L2 HR0_1.out x4_4 p263 q263
    cases e263
    replace hx263_0 := (HB.out.cell (World.block_lt_of_cell? w _ hx263_0)).trans hx263_0
    have HR263_0 := Aside0.mk hi263_0
    have HC263_0 := Aside0.mk hl263_0
    clear hi263_0 hl263_0
    replace p263 := eq_true p263
    replace q263 := eq_true q263
    go_wp2
    go_roundg k5
    case measure => have := HJ1.out; have := HK2.out; have := HJ18.out; have := HK4.out; have := HK5.out; omega
    case rel => exact ⟨(wrap64 (x4_4 + 1)), b5_, H', ⟨(by have := HJ1.out; have := HK2.out; have := HJ18.out; have := HK4.out; have := HK5.out; omega)⟩, ⟨b17_⟩, ⟨b1_⟩⟩
  rw [if_pos c29] at H
  have c29b0 : decide (x5_5 < ((rd_L2 l0_1 x4_4).length : Int)) = true := decide_eq_true c29
  clear c29
  by_cases c30 : 0 ≤ x5_5
  rotate_left
  · rw [if_neg c30] at H
    exact absurd H (by simp)
  rw [if_pos c30] at H
  have c30b0 : decide (0 ≤ x5_5) = true := decide_eq_true c30
  clear c30
  by_cases c31 : (rd (rd_L2 l0_1 x4_4) x5_5) < 0
  · rw [if_pos c31] at H
    have c31b0 : decide ((rd (rd_L2 l0_1 x4_4) x5_5) < 0) = true := decide_eq_true c31
    clear c31
    obtain rfl := Option.some.inj H
    obtain ⟨hcz32_0, hcz32_1, hfz32_0, hfz32_1⟩ := cz2_ BK258.out
    have p263 : 0 ≤ (x4_4 : Int) := of_decide_eq_true b2_
    have q263 : x4_4 < (l0_1.length : Int) := of_decide_eq_true b2_
    obtain ⟨ad263, A263_0, c263_0, e263, hx263_0, hl263_0, hi263_0⟩ := at_L2 HR0_1.out x4_4 p263 q263
    cases e263
    replace hx263_0 := (HB.out.cell (World.block_lt_of_cell? w _ hx263_0)).trans hx263_0
    have HR263_0 := Aside0.mk hi263_0
    have HC263_0 := Aside0.mk hl263_0
    clear hi263_0 hl263_0
    replace p263 := eq_true p263
    replace q263 := eq_true q263
    have p264 : 0 ≤ (x4_4 : Int) := of_decide_eq_true b2_
    have q264 : x4_4 < (l0_1.length : Int) := of_decide_eq_true b2_
    obtain ⟨ad264, A264_0, c264_0, e264, hx264_0, hl264_0, hi264_0⟩ := at_L2 HR0_1.out x4_4 p264 q264
    obtain rfl : ad263 = ad264 := (by injection e264)
    replace hx264_0 := (HB.out.cell (World.block_lt_of_cell? w _ hx264_0)).trans hx264_0
    have HR264_0 := Aside0.mk hi264_0
    have HC264_0 := Aside0.mk hl264_0
    clear hi264_0 hl264_0
    replace p264 := eq_true p264
    replace q264 := eq_true q264
    have ea_ := Option.some.inj (hx263_0.symm.trans hx264_0)
    injection ea_ with ea_ en_ ec_
    subst ea_
    subst ec_
    clear en_
    have p265 : 0 ≤ (x5_5 : Int) := of_decide_eq_true b2_
    have q265 : x5_5 < ((rd_L2 l0_1 x4_4).length : Int) := of_decide_eq_true b2_
    obtain ⟨ad265, e265, hx265_0⟩ := Kd.at_int HR264_0.out x5_5 p265 q265
    cases e265
    replace hx265_0 := (HB.out.cell (World.block_lt_of_cell? w _ hx265_0)).trans hx265_0
    replace p265 := eq_true p265
    replace q265 := eq_true q265
    go_wp2
    go_ret
    exact ⟨b4_, b1_⟩
  rw [if_neg c31] at H
  have c31b0 : decide ((rd (rd_L2 l0_1 x4_4) x5_5) < 0) = false := decide_eq_false c31
  clear c31
  by_cases c33 : (rd (rd_L2 l0_1 x4_4) x5_5) > 1000000
  · rw [if_pos c33] at H
    have c33b0 : decide (1000000 < (rd (rd_L2 l0_1 x4_4) x5_5)) = true := decide_eq_true c33
    clear c33
    obtain rfl := Option.some.inj H
    obtain ⟨hcz34_0, hcz34_1, hfz34_0, hfz34_1⟩ := cz2_ BK258.out
    have p263 : 0 ≤ (x4_4 : Int) := of_decide_eq_true b2_
    have q263 : x4_4 < (l0_1.length : Int) := of_decide_eq_true b2_
    obtain ⟨ad263, A263_0, c263_0, e263, hx263_0, hl263_0, hi263_0⟩ := at_L2 HR0_1.out x4_4 p263 q263
    cases e263
    replace hx263_0 := (HB.out.cell (World.block_lt_of_cell? w _ hx263_0)).trans hx263_0
    have HR263_0 := Aside0.mk hi263_0
    have HC263_0 := Aside0.mk hl263_0
    clear hi263_0 hl263_0
    replace p263 := eq_true p263
    replace q263 := eq_true q263
    have p264 : 0 ≤ (x4_4 : Int) := of_decide_eq_true b2_
    have q264 : x4_4 < (l0_1.length : Int) := of_decide_eq_true b2_
    obtain ⟨ad264, A264_0, c264_0, e264, hx264_0, hl264_0, hi264_0⟩ := at_L2 HR0_1.out x4_4 p264 q264
    obtain rfl : ad263 = ad264 := (by injection e264)
    replace hx264_0 := (HB.out.cell (World.block_lt_of_cell? w _ hx264_0)).trans hx264_0
    have HR264_0 := Aside0.mk hi264_0
    have HC264_0 := Aside0.mk hl264_0
    clear hi264_0 hl264_0
    replace p264 := eq_true p264
    replace q264 := eq_true q264
    have ea_ := Option.some.inj (hx263_0.symm.trans hx264_0)
    injection ea_ with ea_ en_ ec_
    subst ea_
    subst ec_
    clear en_
    have p265 : 0 ≤ (x5_5 : Int) := of_decide_eq_true b2_
    have q265 : x5_5 < ((rd_L2 l0_1 x4_4).length : Int) := of_decide_eq_true b2_
    obtain ⟨ad265, e265, hx265_0⟩ := Kd.at_int HR264_0.out x5_5 p265 q265
    cases e265
    replace hx265_0 := (HB.out.cell (World.block_lt_of_cell? w _ hx265_0)).trans hx265_0
    replace p265 := eq_true p265
    replace q265 := eq_true q265
    have p266 : 0 ≤ (x4_4 : Int) := of_decide_eq_true b2_
    have q266 : x4_4 < (l0_1.length : Int) := of_decide_eq_true b2_
    obtain ⟨ad266, A266_0, c266_0, e266, hx266_0, hl266_0, hi266_0⟩ := at_L2 HR0_1.out x4_4 p266 q266
    obtain rfl : ad263 = ad266 := (by injection e266)
    replace hx266_0 := (HB.out.cell (World.block_lt_of_cell? w _ hx266_0)).trans hx266_0
    have HR266_0 := Aside0.mk hi266_0
    have HC266_0 := Aside0.mk hl266_0
    clear hi266_0 hl266_0
    replace p266 := eq_true p266
    replace q266 := eq_true q266
    have ea_ := Option.some.inj (hx263_0.symm.trans hx266_0)
    injection ea_ with ea_ en_ ec_
    subst ea_
    subst ec_
    clear en_
    have p267 : 0 ≤ (x5_5 : Int) := of_decide_eq_true b2_
    have q267 : x5_5 < ((rd_L2 l0_1 x4_4).length : Int) := of_decide_eq_true b2_
    obtain ⟨ad267, e267, hx267_0⟩ := Kd.at_int HR266_0.out x5_5 p267 q267
    cases e267
    replace hx267_0 := (HB.out.cell (World.block_lt_of_cell? w _ hx267_0)).trans hx267_0
    replace p267 := eq_true p267
    replace q267 := eq_true q267
    go_wp2
    go_ret
    exact ⟨b4_, b1_⟩
  rw [if_neg c33] at H
  have c33b0 : decide (1000000 < (rd (rd_L2 l0_1 x4_4) x5_5)) = false := decide_eq_false c33
  clear c33
  have H' := Aside0.mk H
  clear H
  obtain ⟨hcz35_0, hcz35_1, hfz35_0, hfz35_1⟩ := cz2_ BK258.out
  have p263 : 0 ≤ (x4_4 : Int) := of_decide_eq_true b2_
  have q263 : x4_4 < (l0_1.length : Int) := of_decide_eq_true b2_
  obtain ⟨ad263, A263_0, c263_0, e263, hx263_0, hl263_0, hi263_0⟩ := at_L2 HR0_1.out x4_4 p263 q263
  cases e263
  replace hx263_0 := (HB.out.cell (World.block_lt_of_cell? w _ hx263_0)).trans hx263_0
  have HR263_0 := Aside0.mk hi263_0
  have HC263_0 := Aside0.mk hl263_0
  clear hi263_0 hl263_0
  replace p263 := eq_true p263
  replace q263 := eq_true q263
  have p264 : 0 ≤ (x4_4 : Int) := of_decide_eq_true b2_
  have q264 : x4_4 < (l0_1.length : Int) := of_decide_eq_true b2_
  obtain ⟨ad264, A264_0, c264_0, e264, hx264_0, hl264_0, hi264_0⟩ := at_L2 HR0_1.out x4_4 p264 q264
  obtain rfl : ad263 = ad264 := (by injection e264)
  replace hx264_0 := (HB.out.cell (World.block_lt_of_cell? w _ hx264_0)).trans hx264_0
  have HR264_0 := Aside0.mk hi264_0
  have HC264_0 := Aside0.mk hl264_0
  clear hi264_0 hl264_0
  replace p264 := eq_true p264
  replace q264 := eq_true q264
  have ea_ := Option.some.inj (hx263_0.symm.trans hx264_0)
  injection ea_ with ea_ en_ ec_
  subst ea_
  subst ec_
  clear en_
  have p265 : 0 ≤ (x5_5 : Int) := of_decide_eq_true b2_
  have q265 : x5_5 < ((rd_L2 l0_1 x4_4).length : Int) := of_decide_eq_true b2_
  obtain ⟨ad265, e265, hx265_0⟩ := Kd.at_int HR264_0.out x5_5 p265 q265
  cases e265
  replace hx265_0 := (HB.out.cell (World.block_lt_of_cell? w _ hx265_0)).trans hx265_0
  replace p265 := eq_true p265
  replace q265 := eq_true q265
  have p266 : 0 ≤ (x4_4 : Int) := of_decide_eq_true b2_
  have q266 : x4_4 < (l0_1.length : Int) := of_decide_eq_true b2_
  obtain ⟨ad266, A266_0, c266_0, e266, hx266_0, hl266_0, hi266_0⟩ := at_L2 HR0_1.out x4_4 p266 q266
  obtain rfl : ad263 = ad266 := (by injection e266)
  replace hx266_0 := (HB.out.cell (World.block_lt_of_cell? w _ hx266_0)).trans hx266_0
  have HR266_0 := Aside0.mk hi266_0
  have HC266_0 := Aside0.mk hl266_0
  clear hi266_0 hl266_0
  replace p266 := eq_true p266
  replace q266 := eq_true q266
  have ea_ := Option.some.inj (hx263_0.symm.trans hx266_0)
  injection ea_ with ea_ en_ ec_
  subst ea_
  subst ec_
  clear en_
  have p267 : 0 ≤ (x5_5 : Int) := of_decide_eq_true b2_
  have q267 : x5_5 < ((rd_L2 l0_1 x4_4).length : Int) := of_decide_eq_true b2_
  obtain ⟨ad267, e267, hx267_0⟩ := Kd.at_int HR266_0.out x5_5 p267 q267
  cases e267
  replace hx267_0 := (HB.out.cell (World.block_lt_of_cell? w _ hx267_0)).trans hx267_0
  replace p267 := eq_true p267
  replace q267 := eq_true q267
  go_wp2
  go_roundg k5
  case measure => have := HJ1.out; have := HK2.out; have := HJ18.out; have := HK4.out; have := HK5.out; omega
  case rel => exact ⟨(wrap64 (x5_5 + 1)), b5_, H', ⟨(by have := HJ1.out; have := HK2.out; have := HJ18.out; have := HK4.out; have := HK5.out; omega)⟩, ⟨b17_⟩, ⟨b1_⟩⟩

end Go.Proofs.Ytcgdbjojjpoegaa.P

namespace Go.Proofs.Ytcgdbjojjpoegaa.P
open Go.RowKit Go.Proofs.YtcgdbjojjpoegaaW.PrintWords Go.Proofs.YtcgdbjojjpoegaaW.PrintLast Go.Proofs.YtcgdbjojjpoegaaW.PrintMore
attribute [local go_sem] max2_int min2_int max_two min_two max_three min_three max_four min_four   -- for this text's walks alone
set_option linter.unusedVariables false
set_option linter.unusedSimpArgs false

/-! ### forecourtref09_Shaped: function 41 -/
def forecourtref09_Shaped.l0 : Nat → List (List Int) → Int → Int → List (List Int) → Option (Bool)
  | 0, _, _, _, _ => none
  | k + 1, x1, x5, x269000, x269001 => if x5 < (x1.length : Int) then (if 0 ≤ x5 then (if 0 < (x269001.length : Int) then (if ((rd_L2 x1 x5).length : Int) = ((rd_L2 x269001 0).length : Int) then (forecourtref09_Shaped.l0 k x1 (wrap64 (x5 + 1)) x269000 x269001) else (some false)) else (none)) else (none)) else (some true)
def forecourtref09_Shaped.f (k : Nat) (a0_0 : Int) (l0_1 : List (List Int)) (l1 : List (List Int)) : Option (Bool) := if (l1.length : Int) = (l0_1.length : Int) then (forecourtref09_Shaped.l0 k l1 0 a0_0 l0_1) else (some false)
theorem forecourtref09_Shaped.mono_l : ∀ k, (∀ y0 y1 y2 y3, LeO (forecourtref09_Shaped.l0 k y0 y1 y2 y3) (forecourtref09_Shaped.l0 (k + 1) y0 y1 y2 y3))
  | 0 => fun _ _ _ _ r h => by simp [forecourtref09_Shaped.l0] at h
  | k + 1 => by
    have ih0 := forecourtref09_Shaped.mono_l k
    · intro y0 y1 y2 y3
      unfold forecourtref09_Shaped.l0
      repeat' first
      | (with_reducible exact ih0 _ _ _ _)
      | (with_reducible exact LeO.refl _)
      | (with_reducible exact LeO.none _)
      | (with_reducible refine LeO.ite ?_ ?_)
      | (with_reducible refine LeO.bind ?_ (fun _ => ?_))
      | exact ih0 _ _ _ _
      | exact LeO.none _
      | refine LeO.ite ?_ ?_
      | refine LeO.bind ?_ (fun _ => ?_)
theorem forecourtref09_Shaped.mono : ∀ a0 a1 a2 k, LeO (forecourtref09_Shaped.f k a0 a1 a2) (forecourtref09_Shaped.f (k + 1) a0 a1 a2) := by
  intro a0 a1 a2 k
  have ih0 := forecourtref09_Shaped.mono_l k
  unfold forecourtref09_Shaped.f
  repeat' first
      | (with_reducible exact ih0 _ _ _ _)
      | (with_reducible exact LeO.refl _)
      | (with_reducible exact LeO.none _)
      | (with_reducible refine LeO.ite ?_ ?_)
      | (with_reducible refine LeO.bind ?_ (fun _ => ?_))
      | exact ih0 _ _ _ _
      | exact LeO.none _
      | refine LeO.ite ?_ ?_
      | refine LeO.bind ?_ (fun _ => ?_)
set_option maxHeartbeats 8000000 in
set_option maxRecDepth 100000 in
theorem forecourtref09_Shaped.calls (k : Nat) (a0_0 : Int) (A0_1 : Option Addr) (c0_1 : Nat) (l0_1 : List (List Int)) (A1 : Option Addr) (c1 : Nat) (l1 : List (List Int)) (r : Bool) (w : World) (hr0_1 : Kd.C (Kd.slice 2 (Kd.int .i64)) w A0_1 l0_1.length l0_1) (hc0_1 : l0_1.length ≤ c0_1) (hr1 : Kd.C (Kd.slice 2 (Kd.int .i64)) w A1 l1.length l1) (hc1 : l1.length ≤ c1) (h : forecourtref09_Shaped.f k a0_0 l0_1 l1 = some r) :
    Calls Try.prog 41 #[.agg #[.int .i64 a0_0, .slice A0_1 l0_1.length c0_1], .slice A1 l1.length c1] w fun e w' => e = .returned (.bool r) ∧ Below w.heap.size w w' := by
  have hu39 := Try.underlying39
  have HR0_1 := Aside0.mk hr0_1
  have HC0_1 := Aside0.mk hc0_1
  clear hr0_1 hc0_1
  have HR1 := Aside0.mk hr1
  have HC1 := Aside0.mk hc1
  clear hr1 hc1
  have HB := Aside0.mk (Below.refl w.heap.size w)
  have H : (if (l1.length : Int) = (l0_1.length : Int) then (forecourtref09_Shaped.l0 k l1 0 a0_0 l0_1) else (some false)) = some r := h
  clear h
  by_cases c3 : (l1.length : Int) = (l0_1.length : Int)
  rotate_left
  · rw [if_neg c3] at H
    have c3b0 : ((l1.length : Int) == (l0_1.length : Int)) = false := beq_eq_false_iff_ne.mpr c3
    have c3b1 : ((l1.length : Int) != (l0_1.length : Int)) = true := bne_iff_ne.mpr c3
    have c3b2 : (l1.length == l0_1.length) = false := by first | simpa using c3 | (simp at c3 ⊢; omega)
    obtain rfl := Option.some.inj H
    go_enter Try.func41, Try.ntmps41
    go_wp2_with (first | ((with_reducible refine gate_dst (N := 2) rfl ?_); refine bx_ (cs := #[.int .i64 a0_0, .slice A0_1 l0_1.length c0_1]) (t := 39) (fun gb268 w12 BK268 GE268 HB => ?_); obtain ⟨hcz13_0, hcz13_1, hfz13_0, hfz13_1⟩ := cz2_ BK268.out))
    go_ret
    exact ⟨b4_, b1_⟩
  rw [if_pos c3] at H
  have c3b0 : ((l1.length : Int) == (l0_1.length : Int)) = true := beq_iff_eq.mpr c3
  have c3b1 : ((l1.length : Int) != (l0_1.length : Int)) = false := bne_eq_false_iff_eq.mpr c3
  have c3b2 : (l1.length == l0_1.length) = true := by first | simpa using c3 | (simp at c3 ⊢; omega)
  clear c3
  have H' := Aside0.mk H
  clear H
  go_enter Try.func41, Try.ntmps41
  go_wp2_with (first | ((with_reducible refine gate_dst (N := 2) rfl ?_); refine bx_ (cs := #[.int .i64 a0_0, .slice A0_1 l0_1.length c0_1]) (t := 39) (fun gb268 w4 BK268 GE268 HB => ?_); obtain ⟨hcz5_0, hcz5_1, hfz5_0, hfz5_1⟩ := cz2_ BK268.out))
  go_loopg [5] k (fun kq v5 w' => ∃ (x5_1 : Int), v5 = .int .i64 x5_1 ∧ Aside0 (forecourtref09_Shaped.l0 kq l1 x5_1 a0_0 l0_1 = some r) ∧ Aside0 (kq ≤ k) ∧ Aside0 (w'.heap[gb268]? = some (.cells #[.int .i64 a0_0, (.slice A0_1 l0_1.length c0_1)] 39 (0, 0))) ∧ Aside0 (Below w.heap.size w w'))
  case atStart => exact ⟨(0), b5_, H', ⟨Nat.le_refl _⟩, ⟨(by (with_reducible repeat (first | refine blk_drewN ?_ _ | refine blk_drew ?_ | refine blk_alloc ?_ _)); exact BK268.out)⟩, ⟨b1_⟩⟩
  clear H'
  try clear c1
  try clear p2
  try clear c3
  try clear c3b0
  try clear c3b1
  try clear c3b2
  try clear c4
  try clear hcz5_0
  try clear hcz5_1
  try clear hfz5_0
  try clear hfz5_1
  obtain ⟨x5_1, rfl, HA, HK1, BK268, HB⟩ := hrel
  cases gk with
  | zero => exact absurd HA.out (by simp [forecourtref09_Shaped.l0])
  | succ k1 => ?_
  have H := HA.out
  clear HA
  simp only [forecourtref09_Shaped.l0] at H
  by_cases c6 : x5_1 < (l1.length : Int)
  rotate_left
  · rw [if_neg c6] at H
    have c6b0 : decide (x5_1 < (l1.length : Int)) = false := decide_eq_false c6
    clear c6
    obtain rfl := Option.some.inj H
    go_wp2
    go_ret
    exact ⟨b4_, b1_⟩
  rw [if_pos c6] at H
  have c6b0 : decide (x5_1 < (l1.length : Int)) = true := decide_eq_true c6
  clear c6
  by_cases c7 : 0 ≤ x5_1
  rotate_left
  · rw [if_neg c7] at H
    exact absurd H (by simp)
  rw [if_pos c7] at H
  have c7b0 : decide (0 ≤ x5_1) = true := decide_eq_true c7
  clear c7
  by_cases c8 : 0 < (l0_1.length : Int)
  rotate_left
  · rw [if_neg c8] at H
    exact absurd H (by simp)
  rw [if_pos c8] at H
  have c8b0 : decide (0 < (l0_1.length : Int)) = true := decide_eq_true c8
  have c8b1 : decide (0 < l0_1.length) = true := decide_eq_true (by omega)
  clear c8
  by_cases c9 : ((rd_L2 l1 x5_1).length : Int) = ((rd_L2 l0_1 0).length : Int)
  rotate_left
  · rw [if_neg c9] at H
    have c9b0 : (((rd_L2 l1 x5_1).length : Int) == ((rd_L2 l0_1 0).length : Int)) = false := beq_eq_false_iff_ne.mpr c9
    have c9b1 : (((rd_L2 l1 x5_1).length : Int) != ((rd_L2 l0_1 0).length : Int)) = true := bne_iff_ne.mpr c9
    have c9b2 : ((rd_L2 l1 x5_1).length == (rd_L2 l0_1 0).length) = false := by first | simpa using c9 | (simp at c9 ⊢; omega)
    obtain rfl := Option.some.inj H
    have p269 : 0 ≤ (x5_1 : Int) := of_decide_eq_true b2_
    have q269 : x5_1 < (l1.length : Int) := of_decide_eq_true b2_
    obtain ⟨ad269, A269_0, c269_0, e269, hx269_0, hl269_0, hi269_0⟩ := at_L2 HR1.out x5_1 p269 q269
    cases e269
    replace hx269_0 := (HB.out.cell (World.block_lt_of_cell? w _ hx269_0)).trans hx269_0
    have HR269_0 := Aside0.mk hi269_0
    have HC269_0 := Aside0.mk hl269_0
    clear hi269_0 hl269_0
    replace p269 := eq_true p269
    replace q269 := eq_true q269
    obtain ⟨hcz11_0, hcz11_1, hfz11_0, hfz11_1⟩ := cz2_ BK268.out
    have p270 : 0 ≤ (0 : Int) := (by omega)
    have q270 : 0 < (l0_1.length : Int) := of_decide_eq_true b2_
    obtain ⟨ad270, A270_0, c270_0, e270, hx270_0, hl270_0, hi270_0⟩ := at_L2 HR0_1.out 0 p270 q270
    cases e270
    have qi270 : (0 < l0_1.length) = True := eq_true (by omega)
    (try rw [show ((0 : Int)).toNat = 0 from rfl] at hx270_0)
    (try rw [Addr.add_zero'] at hx270_0)
    replace hx270_0 := (HB.out.cell (World.block_lt_of_cell? w _ hx270_0)).trans hx270_0
    have HR270_0 := Aside0.mk hi270_0
    have HC270_0 := Aside0.mk hl270_0
    clear hi270_0 hl270_0
    replace p270 := eq_true p270
    replace q270 := eq_true q270
    go_wp2
    repeat (go_quiet (fail); try go_wp2)
    go_ret
    exact ⟨b4_, b1_⟩
  rw [if_pos c9] at H
  have c9b0 : (((rd_L2 l1 x5_1).length : Int) == ((rd_L2 l0_1 0).length : Int)) = true := beq_iff_eq.mpr c9
  have c9b1 : (((rd_L2 l1 x5_1).length : Int) != ((rd_L2 l0_1 0).length : Int)) = false := bne_eq_false_iff_eq.mpr c9
  have c9b2 : ((rd_L2 l1 x5_1).length == (rd_L2 l0_1 0).length) = true := by first | simpa using c9 | (simp at c9 ⊢; omega)
  clear c9
  have H' := Aside0.mk H
  clear H
  have p269 : 0 ≤ (x5_1 : Int) := of_decide_eq_true b2_
  have q269 : x5_1 < (l1.length : Int) := of_decide_eq_true b2_
  obtain ⟨ad269, A269_0, c269_0, e269, hx269_0, hl269_0, hi269_0⟩ := at_L2 HR1.out x5_1 p269 q269
  cases e269
  replace hx269_0 := (HB.out.cell (World.block_lt_of_cell? w _ hx269_0)).trans hx269_0
  have HR269_0 := Aside0.mk hi269_0
  have HC269_0 := Aside0.mk hl269_0
  clear hi269_0 hl269_0
  replace p269 := eq_true p269
  replace q269 := eq_true q269
  obtain ⟨hcz10_0, hcz10_1, hfz10_0, hfz10_1⟩ := cz2_ BK268.out
  have p270 : 0 ≤ (0 : Int) := (by omega)
  have q270 : 0 < (l0_1.length : Int) := of_decide_eq_true b2_
  obtain ⟨ad270, A270_0, c270_0, e270, hx270_0, hl270_0, hi270_0⟩ := at_L2 HR0_1.out 0 p270 q270
  cases e270
  have qi270 : (0 < l0_1.length) = True := eq_true (by omega)
  (try rw [show ((0 : Int)).toNat = 0 from rfl] at hx270_0)
  (try rw [Addr.add_zero'] at hx270_0)
  replace hx270_0 := (HB.out.cell (World.block_lt_of_cell? w _ hx270_0)).trans hx270_0
  have HR270_0 := Aside0.mk hi270_0
  have HC270_0 := Aside0.mk hl270_0
  clear hi270_0 hl270_0
  replace p270 := eq_true p270
  replace q270 := eq_true q270
  go_wp2
  repeat (go_quiet (fail); try go_wp2)
  go_roundg k1
  case measure => have := HK1.out; omega
  case rel => exact ⟨(wrap64 (x5_1 + 1)), b5_, H', ⟨(by have := HK1.out; omega)⟩, ⟨(by (with_reducible repeat (first | refine blk_drewN ?_ _ | refine blk_drew ?_ | refine blk_alloc ?_ _)); exact BK268.out)⟩, ⟨b1_⟩⟩

end Go.Proofs.Ytcgdbjojjpoegaa.P

namespace Go.Proofs.Ytcgdbjojjpoegaa.P
open Go.RowKit Go.Proofs.YtcgdbjojjpoegaaW.PrintWords Go.Proofs.YtcgdbjojjpoegaaW.PrintLast Go.Proofs.YtcgdbjojjpoegaaW.PrintMore
attribute [local go_sem] max2_int min2_int max_two min_two max_three min_three max_four min_four   -- for this text's walks alone
set_option linter.unusedVariables false
set_option linter.unusedSimpArgs false

/-! ### forecourtref09_Sums: function 42 -/
mutual
def forecourtref09_Sums.l0 : Nat → List (List Int) → List Int → Int → List Int → List Int → Int → Option (List Int)
  | 0, _, _, _, _, _, _ => none
  | k + 1, x0, x3, x4, x5, x6, x7 => if x7 < (x0.length : Int) then (forecourtref09_Sums.l1 k x0 x3 x4 x5 x6 x7 0) else (if x3.length + x5.length < 17592186044416 then ((some (x3 ++ x5 : List Int)).bind fun y278 => (if y278.length + x6.length < 17592186044416 then ((some (y278 ++ x6 : List Int)).bind fun y281 => (if y281.length < 17592186044416 then (some (y281 ++ [x4])) else (none))) else (none))) else (none))
def forecourtref09_Sums.l1 : Nat → List (List Int) → List Int → Int → List Int → List Int → Int → Int → Option (List Int)
  | 0, _, _, _, _, _, _, _ => none
  | k + 1, x0, x3, x4, x5, x6, x7, x8 => if 0 ≤ x7 then (if x7 < (x0.length : Int) then (if x8 < ((rd_L2 x0 x7).length : Int) then (if 0 ≤ x8 then (if x3.length < 17592186044416 then (if x7 < (x5.length : Int) then (if x8 < (x6.length : Int) then (forecourtref09_Sums.l1 k x0 (x3 ++ [rd (rd_L2 x0 x7) x8]) (wrap64 (x4 + (rd (rd_L2 x0 x7) x8))) (x5.set (x7 : Int).toNat (wrap64 ((rd x5 x7) + (rd (rd_L2 x0 x7) x8)))) (x6.set (x8 : Int).toNat (wrap64 ((rd x6 x8) + (rd (rd_L2 x0 x7) x8)))) x7 (wrap64 (x8 + 1))) else (none)) else (none)) else (none)) else (none)) else (forecourtref09_Sums.l0 k x0 x3 x4 x5 x6 (wrap64 (x7 + 1)))) else (none)) else (none)
end
def forecourtref09_Sums.f (k : Nat) (l0 : List (List Int)) : Option (List Int) := if 0 ≤ (l0.length : Int) then (if ((l0.length : Int) : Int).toNat ≤ 35184372088832 then (if 0 < (l0.length : Int) then (if 0 ≤ ((rd_L2 l0 0).length : Int) then (if (((rd_L2 l0 0).length : Int) : Int).toNat ≤ 35184372088832 then (forecourtref09_Sums.l0 k l0 ([] : List Int) 0 (List.replicate ((l0.length : Int) : Int).toNat 0) (List.replicate (((rd_L2 l0 0).length : Int) : Int).toNat 0) 0) else (none)) else (none)) else (none)) else (none)) else (none)
theorem forecourtref09_Sums.mono_l : ∀ k, (∀ y0 y1 y2 y3 y4 y5, LeO (forecourtref09_Sums.l0 k y0 y1 y2 y3 y4 y5) (forecourtref09_Sums.l0 (k + 1) y0 y1 y2 y3 y4 y5)) ∧ (∀ y0 y1 y2 y3 y4 y5 y6, LeO (forecourtref09_Sums.l1 k y0 y1 y2 y3 y4 y5 y6) (forecourtref09_Sums.l1 (k + 1) y0 y1 y2 y3 y4 y5 y6))
  | 0 => ⟨fun _ _ _ _ _ _ r h => by simp [forecourtref09_Sums.l0] at h, fun _ _ _ _ _ _ _ r h => by simp [forecourtref09_Sums.l1] at h⟩
  | k + 1 => by
    obtain ⟨ih0, ih1⟩ := forecourtref09_Sums.mono_l k
    refine ⟨?_, ?_⟩
    · intro y0 y1 y2 y3 y4 y5
      unfold forecourtref09_Sums.l0
      repeat' first
      | (with_reducible exact ih0 _ _ _ _ _ _)
      | (with_reducible exact ih1 _ _ _ _ _ _ _)
      | (with_reducible exact LeO.refl _)
      | (with_reducible exact LeO.none _)
      | (with_reducible refine LeO.ite ?_ ?_)
      | (with_reducible refine LeO.bind ?_ (fun _ => ?_))
      | exact ih0 _ _ _ _ _ _
      | exact ih1 _ _ _ _ _ _ _
      | exact LeO.none _
      | refine LeO.ite ?_ ?_
      | refine LeO.bind ?_ (fun _ => ?_)
    · intro y0 y1 y2 y3 y4 y5 y6
      unfold forecourtref09_Sums.l1
      repeat' first
      | (with_reducible exact ih0 _ _ _ _ _ _)
      | (with_reducible exact ih1 _ _ _ _ _ _ _)
      | (with_reducible exact LeO.refl _)
      | (with_reducible exact LeO.none _)
      | (with_reducible refine LeO.ite ?_ ?_)
      | (with_reducible refine LeO.bind ?_ (fun _ => ?_))
      | exact ih0 _ _ _ _ _ _
      | exact ih1 _ _ _ _ _ _ _
      | exact LeO.none _
      | refine LeO.ite ?_ ?_
      | refine LeO.bind ?_ (fun _ => ?_)
theorem forecourtref09_Sums.mono : ∀ a0 k, LeO (forecourtref09_Sums.f k a0) (forecourtref09_Sums.f (k + 1) a0) := by
  intro a0 k
  obtain ⟨ih0, ih1⟩ := forecourtref09_Sums.mono_l k
  unfold forecourtref09_Sums.f
  repeat' first
      | (with_reducible exact ih0 _ _ _ _ _ _)
      | (with_reducible exact ih1 _ _ _ _ _ _ _)
      | (with_reducible exact LeO.refl _)
      | (with_reducible exact LeO.none _)
      | (with_reducible refine LeO.ite ?_ ?_)
      | (with_reducible refine LeO.bind ?_ (fun _ => ?_))
      | exact ih0 _ _ _ _ _ _
      | exact ih1 _ _ _ _ _ _ _
      | exact LeO.none _
      | refine LeO.ite ?_ ?_
      | refine LeO.bind ?_ (fun _ => ?_)
def forecourtref09_Sums.T3 : Bool × List (List Nat × List Nat) := (true, [([], []), ([0], [0]), ([1, 1], [1]), ([], []), ([3], [3]), ([4], [4]), ([5], [5]), ([6, 6], [6]), ([2, 0, 1, 2], [2]), ([7, 8, 0, 1, 2, 3, 4, 5, 6, 7, 8], [7])])
def forecourtref09_Sums.B3 : List Nat := [0, 1, 3, 0, 8, 24, 56, 120, 7, 511]
theorem forecourtref09_Sums.tab3 : rtab .any (opsOf Try.f42 3) = forecourtref09_Sums.T3 := by kernel_rfl
theorem forecourtref09_Sums.bits3 : waitsOk forecourtref09_Sums.T3.2 forecourtref09_Sums.B3 = true := by kernel_rfl
def forecourtref09_Sums.T11 : Bool × List (List Nat × List Nat) := (true, [([], []), ([], []), ([0, 1], [0, 1]), ([2], [2]), ([], []), ([], []), ([4, 5], [4, 5]), ([6], [6]), ([], []), ([7, 8], [7, 8]), ([9], [9]), ([3, 10], [3, 10]), ([0, 1, 0, 1, 2, 3, 4, 5, 6, 7, 8, 9, 10, 11], [0, 1]), ([12, 11, 0, 1, 2, 3, 4, 5, 6, 7, 8, 9, 10, 11], [11, 12])])
def forecourtref09_Sums.B11 : List Nat := [0, 0, 3, 7, 0, 0, 48, 112, 0, 496, 1008, 2047, 4095, 8191]
theorem forecourtref09_Sums.tab11 : rtab .any (opsOf Try.f42 11) = forecourtref09_Sums.T11 := by kernel_rfl
theorem forecourtref09_Sums.bits11 : waitsOk forecourtref09_Sums.T11.2 forecourtref09_Sums.B11 = true := by kernel_rfl
def forecourtref09_Sums.T12 : Bool × List (List Nat × List Nat) := (true, [([], []), ([], []), ([0, 1], [0, 1]), ([2], [2]), ([], []), ([], []), ([4, 5], [4, 5]), ([6], [6]), ([], []), ([7, 8], [7, 8]), ([9], [9]), ([3, 10], [3, 10]), ([0, 1, 0, 1, 2, 3, 4, 5, 6, 7, 8, 9, 10, 11], [0, 1]), ([12, 11, 0, 1, 2, 3, 4, 5, 6, 7, 8, 9, 10, 11], [11, 12])])
def forecourtref09_Sums.B12 : List Nat := [0, 0, 3, 7, 0, 0, 48, 112, 0, 496, 1008, 2047, 4095, 8191]
theorem forecourtref09_Sums.tab12 : rtab .any (opsOf Try.f42 12) = forecourtref09_Sums.T12 := by kernel_rfl
theorem forecourtref09_Sums.bits12 : waitsOk forecourtref09_Sums.T12.2 forecourtref09_Sums.B12 = true := by kernel_rfl
set_option maxHeartbeats 8000000 in
set_option maxRecDepth 100000 in
theorem forecourtref09_Sums.calls (k : Nat) (A0 : Option Addr) (c0 : Nat) (l0 : List (List Int)) (r : List Int) (w : World) (hr0 : Kd.C (Kd.slice 2 (Kd.int .i64)) w A0 l0.length l0) (hc0 : l0.length ≤ c0) (h : forecourtref09_Sums.f k l0 = some r) :
    Calls Try.prog 42 #[.slice A0 l0.length c0] w fun e w' => ∃ v0_ : Value, e = .returned (v0_) ∧ Kd.R (Kd.int .i64) 2 w' w.heap.size (fun _ => True) v0_ r ∧ Below w.heap.size w w' := by
  have HR0 := Aside0.mk hr0
  have HC0 := Aside0.mk hc0
  clear hr0 hc0
  have HB := Aside0.mk (Below.refl w.heap.size w)
  have H : (if 0 ≤ (l0.length : Int) then (if ((l0.length : Int) : Int).toNat ≤ 35184372088832 then (if 0 < (l0.length : Int) then (if 0 ≤ ((rd_L2 l0 0).length : Int) then (if (((rd_L2 l0 0).length : Int) : Int).toNat ≤ 35184372088832 then (forecourtref09_Sums.l0 k l0 ([] : List Int) 0 (List.replicate ((l0.length : Int) : Int).toNat 0) (List.replicate (((rd_L2 l0 0).length : Int) : Int).toNat 0) 0) else (none)) else (none)) else (none)) else (none)) else (none)) = some r := h
  clear h
  by_cases c2 : 0 ≤ (l0.length : Int)
  rotate_left
  · rw [if_neg c2] at H
    exact absurd H (by simp)
  rw [if_pos c2] at H
  have c2b0 := eq_true c2
  have c2b1 : decide (0 ≤ (l0.length : Int)) = true := decide_eq_true c2
  clear c2
  by_cases c3 : ((l0.length : Int) : Int).toNat ≤ 35184372088832
  rotate_left
  · rw [if_neg c3] at H
    exact absurd H (by simp)
  rw [if_pos c3] at H
  have c3b0 := eq_true c3
  have c3b1 : decide (((l0.length : Int) : Int).toNat ≤ 35184372088832) = true := decide_eq_true c3
  clear c3
  obtain ⟨y271, hy271⟩ : ∃ y_ : List Int, y_ = (List.replicate ((l0.length : Int) : Int).toNat 0) := ⟨_, rfl⟩
  replace H : (if 0 < (l0.length : Int) then (if 0 ≤ ((rd_L2 l0 0).length : Int) then (if (((rd_L2 l0 0).length : Int) : Int).toNat ≤ 35184372088832 then (forecourtref09_Sums.l0 k l0 ([] : List Int) 0 y271 (List.replicate (((rd_L2 l0 0).length : Int) : Int).toNat 0) 0) else (none)) else (none)) else (none)) = some r := by first | (rw [hy271]; with_reducible exact H) | (have H2_ := (Option.bind_some _ _).symm.trans H; rw [hy271]; with_reducible exact H2_) | (have H2_ := (Option.bind_some _ _).symm.trans H; with_reducible exact H2_) | with_reducible exact H | (rw [hy271]; exact H) | exact H
  have Ny271 := Aside0.mk hy271
  clear hy271
  by_cases c4 : 0 < (l0.length : Int)
  rotate_left
  · rw [if_neg c4] at H
    exact absurd H (by simp)
  rw [if_pos c4] at H
  have c4b0 : decide (0 < (l0.length : Int)) = true := decide_eq_true c4
  have c4b1 : decide (0 < l0.length) = true := decide_eq_true (by omega)
  clear c4
  by_cases c5 : 0 ≤ ((rd_L2 l0 0).length : Int)
  rotate_left
  · rw [if_neg c5] at H
    exact absurd H (by simp)
  rw [if_pos c5] at H
  have c5b0 := eq_true c5
  have c5b1 : decide (0 ≤ ((rd_L2 l0 0).length : Int)) = true := decide_eq_true c5
  clear c5
  by_cases c6 : (((rd_L2 l0 0).length : Int) : Int).toNat ≤ 35184372088832
  rotate_left
  · rw [if_neg c6] at H
    exact absurd H (by simp)
  rw [if_pos c6] at H
  have c6b0 := eq_true c6
  have c6b1 : decide ((((rd_L2 l0 0).length : Int) : Int).toNat ≤ 35184372088832) = true := decide_eq_true c6
  clear c6
  obtain ⟨y275, hy275⟩ : ∃ y_ : List Int, y_ = (List.replicate (((rd_L2 l0 0).length : Int) : Int).toNat 0) := ⟨_, rfl⟩
  replace H : (forecourtref09_Sums.l0 k l0 ([] : List Int) 0 y271 y275 0) = some r := by first | (rw [hy275]; with_reducible exact H) | (have H2_ := (Option.bind_some _ _).symm.trans H; rw [hy275]; with_reducible exact H2_) | (have H2_ := (Option.bind_some _ _).symm.trans H; with_reducible exact H2_) | with_reducible exact H | (rw [hy275]; exact H) | exact H
  have Ny275 := Aside0.mk hy275
  clear hy275
  have H' := Aside0.mk H
  clear H
  go_enter Try.func42, Try.ntmps42
  try go_wp2
  replace HB := Aside0.mk (below_drew1 HB.out)
  have p274 : 0 ≤ (0 : Int) := (by omega)
  have q274 : 0 < (l0.length : Int) := of_decide_eq_true b2_
  obtain ⟨ad274, A274_0, c274_0, e274, hx274_0, hl274_0, hi274_0⟩ := at_L2 HR0.out 0 p274 q274
  have hw274_0 := hx274_0
  (try rw [show ((0 : Int)).toNat = 0 from rfl] at hw274_0)
  (try rw [show 0 * 1 = 0 from rfl] at hw274_0)
  (try rw [Addr.add_zero'] at hw274_0)
  cases e274
  have qi274 : (0 < l0.length) = True := eq_true (by omega)
  (try rw [show ((0 : Int)).toNat = 0 from rfl] at hx274_0)
  (try rw [Addr.add_zero'] at hx274_0)
  replace hx274_0 := (HB.out.cell (World.block_lt_of_cell? w _ hx274_0)).trans hx274_0
  have HR274_0 := Aside0.mk hi274_0
  have HC274_0 := Aside0.mk hl274_0
  clear hi274_0 hl274_0
  replace p274 := eq_true p274
  replace q274 := eq_true q274
  refine sA_ 10 (fun w' => w'.cell? ad274 = some (.slice A274_0 (rd_L2 l0 0).length c274_0)) [] forecourtref09_Sums.tab3 forecourtref09_Sums.bits3 (((HB.out.cell (World.block_lt_of_cell? w _ hw274_0)).trans hw274_0)) (fun hHeld HT_ HW_ => ?_)
  generalize w.drew = w7 at HB HR274_0 hx274_0 hHeld ⊢
  refine pA_ 0 (some 9) 10 1 ?_
  refine pA_ 1 (some 10) 10 3 ?_
  refine pA_ 3 (some 12) 10 11 ?_
  refine pA_ 4 (some 13) 10 27 ?_
  refine tI_ 5 (some 14) 10 59 ?_
  refine pA_ 6 (some 15) 10 123 ?_
  refine join_ (σ := Value × Value) 1 #[true, true, true, true, true, true, true, true, true, false] (fun s_ => [(11, s_.1), (16, s_.2), (5, s_.1)]) (fun s_ w' => (w'.cell? ad274 = some (.slice A274_0 (rd_L2 l0 0).length c274_0)) ∧ (Kd.R (Kd.int .i64) 2 w' w.heap.size (fun k_ => some k_ ≠ (s_.2 : Value).ownBlock) s_.1 y271) ∧ (Kd.R (Kd.int .i64) 2 w' w.heap.size (fun k_ => some k_ ≠ (s_.1 : Value).ownBlock) s_.2 y275) ∧ (Below w.heap.size w w')) ?_ ?_
  rotate_left
  · intro hCont
    refine two_ (i := 2) (j := 7) (Ni := some 11) (Nj := some 16) #[true, true, true, true, true, true, true, false, false, false] #[true, true, false, true, true, true, true, true, false, false] rfl rfl rfl rfl (two_of HT_.out (by kernel_rfl)) (by decide) (by decide) (fun K hK => ?_) (fun K hK => ?_)
    · skip
      refine Kd.R_make_step (Kd.int .i64) _ 2 (by rfl) (N := 11) rfl 48 _ _ rfl (l0.length : Int) rfl rfl Try.underlying48 (.int .i64 0) 8 info2 rfl (by decide) (by omega) 0 (ok := fun _ => True) (okp := fun _ => True) rfl (fun _ hk => hk) trivial (of_decide_eq_true b2_) (Nat.le_trans (Nat.mul_le_mul_right _ (of_decide_eq_true b2_ : (l0.length : Int).toNat ≤ 35184372088832)) (by omega)) (Below.refl _ _) (Nat.le_refl _) ?_
      intro v272 w8 ho9 hb hg_ hnew_
      clear hg_ hnew_
      (first | rw [← Ny271.out] at ho9 | (simp only [Int.reduceToNat] at ho9; rw [← Ny271.out] at ho9))
      have HO273 := Aside0.mk (Kd.R_lower ho9 (below_size b6_))
      replace HB := hB_ HB hb
      clear hb ho9
      refine hK.out _ _ (((HB.out.cell (World.block_lt_of_cell? w _ hw274_0)).trans hw274_0)) (fun hHeld => ?_)
      clear hK K
      refine nA_ (some 11) ?_
      refine pA_ 8 (some 5) 10 383 ?_
      refine oA_ 7 (some 16) 10 511 (fun K hK => ?_)
      refine Kd.R_make_step (Kd.int .i64) _ 2 (by rfl) (N := 16) rfl 48 _ _ rfl ((rd_L2 l0 0).length : Int) rfl rfl Try.underlying48 (.int .i64 0) 8 info2 rfl (by decide) (by omega) 0 (ok := fun _ => True) (okp := fun _ => True) rfl (fun _ hk => hk) trivial (of_decide_eq_true b2_) (Nat.le_trans (Nat.mul_le_mul_right _ (of_decide_eq_true b2_ : ((rd_L2 l0 0).length : Int).toNat ≤ 35184372088832)) (by omega)) (Below.refl _ _) (Nat.le_refl _) ?_
      intro v276 w10 ho11 hb hg_ hnew_
      clear hg_ hnew_
      (first | rw [← Ny275.out] at ho11 | (simp only [Int.reduceToNat] at ho11; rw [← Ny275.out] at ho11))
      have HO277 := Aside0.mk (Kd.R_lower (Kd.R_new' ho11 (Kd.R_lt (by (with_reducible repeat (first | apply Kd.R_alloc | apply Kd.R_drewN | apply Kd.R_drew)); exact HO273.out))) (below_size b6_))
      replace HO273 := Aside0.mk (Kd.R_elder' (by (with_reducible repeat (first | apply Kd.R_alloc | apply Kd.R_drewN | apply Kd.R_drew)); exact HO273.out) (Kd.R_base ho11) hb)
      replace HB := hB_ HB hb
      clear hb ho11
      refine hK.out _ _ (((HB.out.cell (World.block_lt_of_cell? w _ hw274_0)).trans hw274_0)) (fun hHeld => ?_)
      clear hK K
      refine nA_ (some 16) ?_
      exact norm_ b28_ (hCont (v272, v276) _ ⟨hHeld, (by (with_reducible repeat (first | apply Kd.R_alloc | apply Kd.R_drewN | apply Kd.R_drew)); exact Kd.R_mono HO273.out (fun _ hk => hk.2)), (by (with_reducible repeat (first | apply Kd.R_alloc | apply Kd.R_drewN | apply Kd.R_drew)); exact Kd.R_mono HO277.out (fun _ hk => hk.2)), b6_⟩)
    skip
    refine Kd.R_make_step (Kd.int .i64) _ 2 (by rfl) (N := 16) rfl 48 _ _ rfl ((rd_L2 l0 0).length : Int) rfl rfl Try.underlying48 (.int .i64 0) 8 info2 rfl (by decide) (by omega) 0 (ok := fun _ => True) (okp := fun _ => True) rfl (fun _ hk => hk) trivial (of_decide_eq_true b2_) (Nat.le_trans (Nat.mul_le_mul_right _ (of_decide_eq_true b2_ : ((rd_L2 l0 0).length : Int).toNat ≤ 35184372088832)) (by omega)) (Below.refl _ _) (Nat.le_refl _) ?_
    intro v276 w8 ho9 hb hg_ hnew_
    clear hg_ hnew_
    (first | rw [← Ny275.out] at ho9 | (simp only [Int.reduceToNat] at ho9; rw [← Ny275.out] at ho9))
    have HO277 := Aside0.mk (Kd.R_lower ho9 (below_size b6_))
    replace HB := hB_ HB hb
    clear hb ho9
    refine hK.out _ _ (((HB.out.cell (World.block_lt_of_cell? w _ hw274_0)).trans hw274_0)) (fun hHeld => ?_)
    clear hK K
    refine nA_ (some 16) ?_
    refine oA_ 2 (some 11) 10 255 (fun K hK => ?_)
    refine Kd.R_make_step (Kd.int .i64) _ 2 (by rfl) (N := 11) rfl 48 _ _ rfl (l0.length : Int) rfl rfl Try.underlying48 (.int .i64 0) 8 info2 rfl (by decide) (by omega) 0 (ok := fun _ => True) (okp := fun _ => True) rfl (fun _ hk => hk) trivial (of_decide_eq_true b2_) (Nat.le_trans (Nat.mul_le_mul_right _ (of_decide_eq_true b2_ : (l0.length : Int).toNat ≤ 35184372088832)) (by omega)) (Below.refl _ _) (Nat.le_refl _) ?_
    intro v272 w10 ho11 hb hg_ hnew_
    clear hg_ hnew_
    (first | rw [← Ny271.out] at ho11 | (simp only [Int.reduceToNat] at ho11; rw [← Ny271.out] at ho11))
    have HO273 := Aside0.mk (Kd.R_lower (Kd.R_new' ho11 (Kd.R_lt (by (with_reducible repeat (first | apply Kd.R_alloc | apply Kd.R_drewN | apply Kd.R_drew)); exact HO277.out))) (below_size b6_))
    replace HO277 := Aside0.mk (Kd.R_elder' (by (with_reducible repeat (first | apply Kd.R_alloc | apply Kd.R_drewN | apply Kd.R_drew)); exact HO277.out) (Kd.R_base ho11) hb)
    replace HB := hB_ HB hb
    clear hb ho11
    refine hK.out _ _ (((HB.out.cell (World.block_lt_of_cell? w _ hw274_0)).trans hw274_0)) (fun hHeld => ?_)
    clear hK K
    refine nA_ (some 11) ?_
    refine pA_ 8 (some 5) 10 511 ?_
    exact norm_ b28_ (hCont (v272, v276) _ ⟨hHeld, (by (with_reducible repeat (first | apply Kd.R_alloc | apply Kd.R_drewN | apply Kd.R_drew)); exact Kd.R_mono HO273.out (fun _ hk => hk.2)), (by (with_reducible repeat (first | apply Kd.R_alloc | apply Kd.R_drewN | apply Kd.R_drew)); exact Kd.R_mono HO277.out (fun _ hk => hk.2)), b6_⟩)
  rintro ⟨v272, v276⟩ w12 ⟨hS_, h0_, h1_, h2_⟩
  have n0_ : Aside0 (Kd.R (Kd.int .i64) 2 w12 w.heap.size (fun k_ => some k_ ≠ (v276 : Value).ownBlock) v272 y271) := ⟨h0_⟩
  have n1_ : Aside0 (Kd.R (Kd.int .i64) 2 w12 w.heap.size (fun k_ => some k_ ≠ (v272 : Value).ownBlock) v276 y275) := ⟨h1_⟩
  have n2_ : Aside0 (Below w.heap.size w w12) := ⟨h2_⟩
  clear HB
  clear h0_ h1_ h2_
  have HO273 := n0_
  have HO277 := n1_
  have HB := n2_
  clear n0_ n1_ n2_
  have hHeld : w12.cell? ad274 = some (.slice A274_0 (rd_L2 l0 0).length c274_0) := hS_
  refine norm_ (a' := ?_) ?_ ?_
  rotate_left
  · simp only [putAll, Act.put, List.setIfInBounds_toArray, List.set_cons_zero, List.set_cons_succ]
    rfl
  refine pA_ 9 (some 6) 10 1023 ?_
  refine dA_ ?_
  try go_wp2
  go_loopg [3, 4, 7] k (fun kq v3 v4 v7 w' => ∃ (x3_1 : List Int) (x4_1 : Int) (x5_1 : List Int) (x6_1 : List Int) (x7_1 : Int), v4 = .int .i64 x4_1 ∧ v7 = .int .i64 x7_1 ∧ Aside0 (forecourtref09_Sums.l0 kq l0 x3_1 x4_1 x5_1 x6_1 x7_1 = some r) ∧ Aside0 (kq ≤ k) ∧ Aside0 (Kd.R (Kd.int .i64) 2 w' w.heap.size (fun k_ => some k_ ≠ (v272 : Value).ownBlock ∧ some k_ ≠ (v276 : Value).ownBlock) v3 x3_1) ∧ Aside0 (Kd.R (Kd.int .i64) 2 w' w.heap.size (fun k_ => some k_ ≠ (v3 : Value).ownBlock ∧ some k_ ≠ (v276 : Value).ownBlock) v272 x5_1) ∧ Aside0 (Kd.R (Kd.int .i64) 2 w' w.heap.size (fun k_ => some k_ ≠ (v3 : Value).ownBlock ∧ some k_ ≠ (v272 : Value).ownBlock) v276 x6_1) ∧ Aside0 (Below w.heap.size w w'))
  case atStart => exact ⟨(([] : List Int)), (0), (y271), (y275), (0), b5_, b5_, H', ⟨Nat.le_refl _⟩, ⟨b22_⟩, ⟨(by (with_reducible repeat (first | apply Kd.R_alloc | apply Kd.R_drewN | apply Kd.R_drew)); exact Kd.R_mono HO273.out (fun _ hk => ⟨(by simp [Value.ownBlock]), hk⟩))⟩, ⟨(by (with_reducible repeat (first | apply Kd.R_alloc | apply Kd.R_drewN | apply Kd.R_drew)); exact Kd.R_mono HO277.out (fun _ hk => ⟨(by simp [Value.ownBlock]), hk⟩))⟩, ⟨b6_⟩⟩
  clear H'
  try clear c2
  try clear c2b0
  try clear c2b1
  try clear p2
  try clear q2
  try clear hx2
  try clear qi2
  try clear c3
  try clear c3b0
  try clear c3b1
  try clear c4
  try clear c4b0
  try clear c4b1
  try clear c5
  try clear c5b0
  try clear c5b1
  try clear c6
  try clear c6b0
  try clear c6b1
  try clear hx274_0
  try clear p274
  try clear q274
  obtain ⟨x3_1, x4_1, x5_1, x6_1, x7_1, rfl, rfl, HA, HK1, HO_3, HO_5, HO_6, HB⟩ := hrel
  cases gk with
  | zero => exact absurd HA.out (by simp [forecourtref09_Sums.l0])
  | succ k1 => ?_
  have H := HA.out
  clear HA
  simp only [forecourtref09_Sums.l0] at H
  by_cases c13 : x7_1 < (l0.length : Int)
  rotate_left
  · rw [if_neg c13] at H
    have c13b0 : decide (x7_1 < (l0.length : Int)) = false := decide_eq_false c13
    clear c13
    by_cases c31 : x3_1.length + x5_1.length < 17592186044416
    rotate_left
    · rw [if_neg c31] at H
      exact absurd H (by simp)
    rw [if_pos c31] at H
    have LMc31 := Aside0.mk c31
    clear c31
    obtain ⟨y278, hy278⟩ : ∃ y_ : List Int, y_ = (x3_1 ++ x5_1) := ⟨_, rfl⟩
    replace H : (if y278.length + x6_1.length < 17592186044416 then ((some (y278 ++ x6_1 : List Int)).bind fun y281 => (if y281.length < 17592186044416 then (some (y281 ++ [x4_1])) else (none))) else (none)) = some r := by first | (rw [hy278]; with_reducible exact H) | (have H2_ := (Option.bind_some _ _).symm.trans H; rw [hy278]; with_reducible exact H2_) | (have H2_ := (Option.bind_some _ _).symm.trans H; with_reducible exact H2_) | with_reducible exact H | (rw [hy278]; exact H) | exact H
    have Ny278 := Aside0.mk hy278
    clear hy278
    by_cases c32 : y278.length + x6_1.length < 17592186044416
    rotate_left
    · rw [if_neg c32] at H
      exact absurd H (by simp)
    rw [if_pos c32] at H
    have LMc32 := Aside0.mk c32
    clear c32
    obtain ⟨y281, hy281⟩ : ∃ y_ : List Int, y_ = (y278 ++ x6_1) := ⟨_, rfl⟩
    replace H : (if y281.length < 17592186044416 then (some (y281 ++ [x4_1])) else (none)) = some r := by first | (rw [hy281]; with_reducible exact H) | (have H2_ := (Option.bind_some _ _).symm.trans H; rw [hy281]; with_reducible exact H2_) | (have H2_ := (Option.bind_some _ _).symm.trans H; with_reducible exact H2_) | with_reducible exact H | (rw [hy281]; exact H) | exact H
    have Ny281 := Aside0.mk hy281
    clear hy281
    by_cases c33 : y281.length < 17592186044416
    rotate_left
    · rw [if_neg c33] at H
      exact absurd H (by simp)
    rw [if_pos c33] at H
    have LMc33 := Aside0.mk c33
    clear c33
    obtain ⟨y284, hy284⟩ : ∃ y_ : List Int, y_ = (y281 ++ [x4_1]) := ⟨_, rfl⟩
    replace H : (some y284) = some r := by first | (rw [hy284]; with_reducible exact H) | (have H2_ := (Option.bind_some _ _).symm.trans H; rw [hy284]; with_reducible exact H2_) | (have H2_ := (Option.bind_some _ _).symm.trans H; with_reducible exact H2_) | with_reducible exact H | (rw [hy284]; exact H) | exact H
    have Ny284 := Aside0.mk hy284
    clear hy284
    obtain rfl := Option.some.inj H
    obtain ⟨Ao35, co35, eo35⟩ := Kd.R_slice HO_5.out
    subst eo35
    go_wp2_with (first | ((with_reducible refine gate_builtin (b := .append) (xs := #[.tmp 77, .tmp 78]) rfl ?_); at_builtin; refine Kd.R_append_rows (Kd.int .i64) (w0 := w) w.heap.size rfl (.tmp 77) (.tmp 78) 48 2 (.int .i64 0) 8 rfl Try.underlying48 info2 rfl (by decide) (by omega) u3 x3_1 x5_1 _ _ _ (fun k_ => some k_ ≠ (.slice Ao35 x5_1.length co35 : Value).ownBlock ∧ some k_ ≠ (v276 : Value).ownBlock) (fun _ => False) rfl rfl ?aO ?aR (fun _ _ h => h) (fun _ h => h.elim) ?aF ?aB ?aS ?aL ?_; (case aR => repeat (first | exact (Kd.R_reads' HO_5.out).2.2 | (with_reducible refine Kd.C_alloc ?_ _) | (with_reducible refine Kd.C_drewN ?_ _) | (with_reducible refine Kd.C_drew ?_))); (case aB => exact b6_); (case aF => exact (fun k_ hk => ⟨Kd.fresh' (Kd.R_lt b25_) k_ hk, Kd.fresh' (Kd.R_lt b16_) k_ hk⟩)); (case aO => exact b10_); (case aS => exact (below_size b6_)); (case aL => have := LMc31.out; omega); intro v279 w34 ho hb hg hat; rw [← Ny278.out] at ho; replace HO_5 := Aside0.mk (Kd.R_after (ok := (fun k_ => some k_ ≠ (v276 : Value).ownBlock)) (by (with_reducible repeat (first | apply Kd.R_alloc | apply Kd.R_drewN | apply Kd.R_drew)); exact Kd.R_mono HO_5.out (fun _ hk => ⟨hk.2, hk.1⟩)) hg hat); replace HO_6 := Aside0.mk (Kd.R_after (ok := (fun k_ => some k_ ≠ (.slice Ao35 x5_1.length co35 : Value).ownBlock)) (by (with_reducible repeat (first | apply Kd.R_alloc | apply Kd.R_drewN | apply Kd.R_drew)); exact Kd.R_mono HO_6.out (fun _ hk => ⟨hk.2, hk.1⟩)) hg hat); replace HB := Aside0.mk (hb); have HO280 := Aside0.mk (ho); clear HO_3; clear ho hb hg hat; obtain ⟨Ao37, co37, eo37⟩ := Kd.R_slice HO_6.out; subst eo37) | ((with_reducible refine gate_builtin (b := .append) (xs := #[.tmp 79, .tmp 80]) rfl ?_); at_builtin; refine Kd.R_append_rows (Kd.int .i64) (w0 := w) w.heap.size rfl (.tmp 79) (.tmp 80) 48 2 (.int .i64 0) 8 rfl Try.underlying48 info2 rfl (by decide) (by omega) v279 y278 x6_1 _ _ _ (fun k_ => some k_ ≠ (.slice Ao35 x5_1.length co35 : Value).ownBlock ∧ some k_ ≠ (.slice Ao37 x6_1.length co37 : Value).ownBlock) (fun _ => False) rfl rfl ?aO ?aR (fun _ _ h => h) (fun _ h => h.elim) ?aF ?aB ?aS ?aL ?_; (case aR => repeat (first | exact (Kd.R_reads' HO_6.out).2.2 | (with_reducible refine Kd.C_alloc ?_ _) | (with_reducible refine Kd.C_drewN ?_ _) | (with_reducible refine Kd.C_drew ?_))); (case aB => exact b6_); (case aF => exact (fun k_ hk => ⟨Kd.fresh' (Kd.R_lt b25_) k_ hk, Kd.fresh' (Kd.R_lt b16_) k_ hk⟩)); (case aO => exact b10_); (case aS => exact (below_size b6_)); (case aL => have := LMc32.out; omega); intro v282 w36 ho hb hg hat; rw [← Ny281.out] at ho; replace HO_5 := Aside0.mk (Kd.R_after (ok := (fun k_ => some k_ ≠ (.slice Ao37 x6_1.length co37 : Value).ownBlock)) b10_ hg hat); replace HO_6 := Aside0.mk (Kd.R_after (ok := (fun k_ => some k_ ≠ (.slice Ao35 x5_1.length co35 : Value).ownBlock)) b10_ hg hat); replace HB := Aside0.mk (hb); have HO283 := Aside0.mk (ho); clear HO280; clear ho hb hg hat) | ((with_reducible refine gate_builtin (b := .append) (xs := #[.tmp 81, .tmp 83]) rfl ?_); at_builtin; refine Kd.R_append (Kd.int .i64) (w0 := w) w.heap.size rfl (.tmp 81) (.tmp 83) 48 2 (.int .i64 0) 8 rfl Try.underlying48 info2 rfl (by decide) (by omega) v282 y281 x4_1 [.int .i64 x4_1] (fun k_ => some k_ ≠ (.slice Ao35 x5_1.length co35 : Value).ownBlock ∧ some k_ ≠ (.slice Ao37 x6_1.length co37 : Value).ownBlock) (fun _ => False) rfl rfl ?aP (fun _ hk => hk.elim) ?aF ?aO ?aB ?aS ?aL ?_; (case aP => exact rfl); (case aB => exact b6_); (case aF => exact (fun k_ hk => ⟨Kd.fresh' (Kd.R_lt b25_) k_ hk, Kd.fresh' (Kd.R_lt b16_) k_ hk⟩)); (case aO => exact b10_); (case aS => exact (below_size b6_)); (case aL => have := LMc33.out; omega); intro v285 w38 ho hb hg hat; rw [← Ny284.out] at ho; replace HO_5 := Aside0.mk (Kd.R_after (ok := (fun k_ => some k_ ≠ (.slice Ao37 x6_1.length co37 : Value).ownBlock)) b10_ hg hat); replace HO_6 := Aside0.mk (Kd.R_after (ok := (fun k_ => some k_ ≠ (.slice Ao35 x5_1.length co35 : Value).ownBlock)) b10_ hg hat); replace HB := Aside0.mk (hb); have HO286 := Aside0.mk (ho); clear HO283; clear ho hb hg hat))
    go_ret
    exact ⟨_, b4_, (by (with_reducible repeat (first | apply Kd.R_alloc | apply Kd.R_drewN | apply Kd.R_drew)); exact Kd.R_mono HO286.out (fun _ hk => trivial)), b6_⟩
  rw [if_pos c13] at H
  have c13b0 : decide (x7_1 < (l0.length : Int)) = true := decide_eq_true c13
  clear c13
  have H' := Aside0.mk H
  clear H
  go_wp2
  go_loopg [3, 4, 8] k1 (fun kq v3 v4 v8 w' => ∃ (x3_2 : List Int) (x4_2 : Int) (x5_2 : List Int) (x6_2 : List Int) (x8_2 : Int), v4 = .int .i64 x4_2 ∧ v8 = .int .i64 x8_2 ∧ Aside0 (forecourtref09_Sums.l1 kq l0 x3_2 x4_2 x5_2 x6_2 x7_1 x8_2 = some r) ∧ Aside0 (kq ≤ k1) ∧ Aside0 (Kd.R (Kd.int .i64) 2 w' w.heap.size (fun k_ => some k_ ≠ (v272 : Value).ownBlock ∧ some k_ ≠ (v276 : Value).ownBlock) v3 x3_2) ∧ Aside0 (Kd.R (Kd.int .i64) 2 w' w.heap.size (fun k_ => some k_ ≠ (v3 : Value).ownBlock ∧ some k_ ≠ (v276 : Value).ownBlock) v272 x5_2) ∧ Aside0 (Kd.R (Kd.int .i64) 2 w' w.heap.size (fun k_ => some k_ ≠ (v3 : Value).ownBlock ∧ some k_ ≠ (v272 : Value).ownBlock) v276 x6_2) ∧ Aside0 (Below w.heap.size w w'))
  case atStart => exact ⟨(x3_1), (x4_1), (x5_1), (x6_1), (0), b5_, b5_, H', ⟨Nat.le_refl _⟩, ⟨(by (with_reducible repeat (first | apply Kd.R_alloc | apply Kd.R_drewN | apply Kd.R_drew)); exact HO_3.out)⟩, ⟨b25_⟩, ⟨b16_⟩, ⟨b6_⟩⟩
  clear H'
  try clear c1
  try clear c2
  try clear c2b0
  try clear c2b1
  try clear p2
  try clear q2
  try clear hx2
  try clear qi2
  try clear c3
  try clear c3b0
  try clear c3b1
  try clear c4
  try clear c4b0
  try clear c4b1
  try clear c5
  try clear c5b0
  try clear c5b1
  try clear c6
  try clear c6b0
  try clear c6b1
  try clear c13
  try clear c13b0
  try clear hx274_0
  try clear p2
  try clear p274
  try clear q2
  try clear q274
  obtain ⟨x3_2, x4_2, x5_2, x6_2, x8_2, rfl, rfl, HA, HK2, HO_3, HO_5, HO_6, HB⟩ := hrel
  cases gk with
  | zero => exact absurd HA.out (by simp [forecourtref09_Sums.l1])
  | succ k2 => ?_
  have H := HA.out
  clear HA
  simp only [forecourtref09_Sums.l1] at H
  by_cases c14 : 0 ≤ x7_1
  rotate_left
  · rw [if_neg c14] at H
    exact absurd H (by simp)
  rw [if_pos c14] at H
  have c14b0 : decide (0 ≤ x7_1) = true := decide_eq_true c14
  clear c14
  by_cases c15 : x7_1 < (l0.length : Int)
  rotate_left
  · rw [if_neg c15] at H
    exact absurd H (by simp)
  rw [if_pos c15] at H
  have c15b0 : decide (x7_1 < (l0.length : Int)) = true := decide_eq_true c15
  clear c15
  by_cases c16 : x8_2 < ((rd_L2 l0 x7_1).length : Int)
  rotate_left
  · rw [if_neg c16] at H
    have c16b0 : decide (x8_2 < ((rd_L2 l0 x7_1).length : Int)) = false := decide_eq_false c16
    clear c16
    have H' := Aside0.mk H
    clear H
    have p287 : 0 ≤ (x7_1 : Int) := of_decide_eq_true b2_
    have q287 : x7_1 < (l0.length : Int) := of_decide_eq_true b2_
    obtain ⟨ad287, A287_0, c287_0, e287, hx287_0, hl287_0, hi287_0⟩ := at_L2 HR0.out x7_1 p287 q287
    obtain rfl : ad274 = ad287 := (by injection e287)
    replace hx287_0 := (HB.out.cell (World.block_lt_of_cell? w _ hx287_0)).trans hx287_0
    have HR287_0 := Aside0.mk hi287_0
    have HC287_0 := Aside0.mk hl287_0
    clear hi287_0 hl287_0
    replace p287 := eq_true p287
    replace q287 := eq_true q287
    go_wp2
    go_roundg k2
    case measure => have := HK1.out; have := HK2.out; omega
    case rel => exact ⟨(x3_2), (x4_2), (x5_2), (x6_2), (wrap64 (x7_1 + 1)), b5_, b5_, H', ⟨(by have := HK1.out; have := HK2.out; omega)⟩, ⟨(by (with_reducible repeat (first | apply Kd.R_alloc | apply Kd.R_drewN | apply Kd.R_drew)); exact HO_3.out)⟩, ⟨b25_⟩, ⟨b16_⟩, ⟨b6_⟩⟩
  rw [if_pos c16] at H
  have c16b0 : decide (x8_2 < ((rd_L2 l0 x7_1).length : Int)) = true := decide_eq_true c16
  clear c16
  by_cases c17 : 0 ≤ x8_2
  rotate_left
  · rw [if_neg c17] at H
    exact absurd H (by simp)
  rw [if_pos c17] at H
  have c17b0 : decide (0 ≤ x8_2) = true := decide_eq_true c17
  clear c17
  by_cases c18 : x3_2.length < 17592186044416
  rotate_left
  · rw [if_neg c18] at H
    exact absurd H (by simp)
  rw [if_pos c18] at H
  have LMc18 := Aside0.mk c18
  clear c18
  obtain ⟨y290, hy290⟩ : ∃ y_ : List Int, y_ = (x3_2 ++ [rd (rd_L2 l0 x7_1) x8_2]) := ⟨_, rfl⟩
  replace H : (if x7_1 < (x5_2.length : Int) then (if x8_2 < (x6_2.length : Int) then (forecourtref09_Sums.l1 k2 l0 y290 (wrap64 (x4_2 + (rd (rd_L2 l0 x7_1) x8_2))) (x5_2.set (x7_1 : Int).toNat (wrap64 ((rd x5_2 x7_1) + (rd (rd_L2 l0 x7_1) x8_2)))) (x6_2.set (x8_2 : Int).toNat (wrap64 ((rd x6_2 x8_2) + (rd (rd_L2 l0 x7_1) x8_2)))) x7_1 (wrap64 (x8_2 + 1))) else (none)) else (none)) = some r := by first | (rw [hy290]; with_reducible exact H) | (have H2_ := (Option.bind_some _ _).symm.trans H; rw [hy290]; with_reducible exact H2_) | (have H2_ := (Option.bind_some _ _).symm.trans H; with_reducible exact H2_) | with_reducible exact H | (rw [hy290]; exact H) | exact H
  have Ny290 := Aside0.mk hy290
  clear hy290
  by_cases c19 : x7_1 < (x5_2.length : Int)
  rotate_left
  · rw [if_neg c19] at H
    exact absurd H (by simp)
  rw [if_pos c19] at H
  have c19b0 : decide (x7_1 < (x5_2.length : Int)) = true := decide_eq_true c19
  clear c19
  obtain ⟨y296, hy296⟩ : ∃ y_ : List Int, y_ = (x5_2.set (x7_1 : Int).toNat (wrap64 ((rd x5_2 x7_1) + (rd (rd_L2 l0 x7_1) x8_2)))) := ⟨_, rfl⟩
  replace H : (if x8_2 < (x6_2.length : Int) then (forecourtref09_Sums.l1 k2 l0 y290 (wrap64 (x4_2 + (rd (rd_L2 l0 x7_1) x8_2))) y296 (x6_2.set (x8_2 : Int).toNat (wrap64 ((rd x6_2 x8_2) + (rd (rd_L2 l0 x7_1) x8_2)))) x7_1 (wrap64 (x8_2 + 1))) else (none)) = some r := by first | (rw [hy296]; with_reducible exact H) | (have H2_ := (Option.bind_some _ _).symm.trans H; rw [hy296]; with_reducible exact H2_) | (have H2_ := (Option.bind_some _ _).symm.trans H; with_reducible exact H2_) | with_reducible exact H | (rw [hy296]; exact H) | exact H
  have Ny296 := Aside0.mk hy296
  clear hy296
  by_cases c21 : x8_2 < (x6_2.length : Int)
  rotate_left
  · rw [if_neg c21] at H
    exact absurd H (by simp)
  rw [if_pos c21] at H
  have c21b0 : decide (x8_2 < (x6_2.length : Int)) = true := decide_eq_true c21
  clear c21
  obtain ⟨y300, hy300⟩ : ∃ y_ : List Int, y_ = (x6_2.set (x8_2 : Int).toNat (wrap64 ((rd x6_2 x8_2) + (rd (rd_L2 l0 x7_1) x8_2)))) := ⟨_, rfl⟩
  replace H : (forecourtref09_Sums.l1 k2 l0 y290 (wrap64 (x4_2 + (rd (rd_L2 l0 x7_1) x8_2))) y296 y300 x7_1 (wrap64 (x8_2 + 1))) = some r := by first | (rw [hy300]; with_reducible exact H) | (have H2_ := (Option.bind_some _ _).symm.trans H; rw [hy300]; with_reducible exact H2_) | (have H2_ := (Option.bind_some _ _).symm.trans H; with_reducible exact H2_) | with_reducible exact H | (rw [hy300]; exact H) | exact H
  have Ny300 := Aside0.mk hy300
  clear hy300
  have H' := Aside0.mk H
  clear H
  have p287 : 0 ≤ (x7_1 : Int) := of_decide_eq_true b2_
  have q287 : x7_1 < (l0.length : Int) := of_decide_eq_true b2_
  obtain ⟨ad287, A287_0, c287_0, e287, hx287_0, hl287_0, hi287_0⟩ := at_L2 HR0.out x7_1 p287 q287
  obtain rfl : ad274 = ad287 := (by injection e287)
  replace hx287_0 := (HB.out.cell (World.block_lt_of_cell? w _ hx287_0)).trans hx287_0
  have HR287_0 := Aside0.mk hi287_0
  have HC287_0 := Aside0.mk hl287_0
  clear hi287_0 hl287_0
  replace p287 := eq_true p287
  replace q287 := eq_true q287
  have p288 : 0 ≤ (x7_1 : Int) := of_decide_eq_true b2_
  have q288 : x7_1 < (l0.length : Int) := of_decide_eq_true b2_
  obtain ⟨ad288, A288_0, c288_0, e288, hx288_0, hl288_0, hi288_0⟩ := at_L2 HR0.out x7_1 p288 q288
  obtain rfl : ad274 = ad288 := (by injection e288)
  replace hx288_0 := (HB.out.cell (World.block_lt_of_cell? w _ hx288_0)).trans hx288_0
  have HR288_0 := Aside0.mk hi288_0
  have HC288_0 := Aside0.mk hl288_0
  clear hi288_0 hl288_0
  replace p288 := eq_true p288
  replace q288 := eq_true q288
  have ea_ := Option.some.inj (hx287_0.symm.trans hx288_0)
  injection ea_ with ea_ en_ ec_
  subst ea_
  subst ec_
  clear en_
  have p289 : 0 ≤ (x8_2 : Int) := of_decide_eq_true b2_
  have q289 : x8_2 < ((rd_L2 l0 x7_1).length : Int) := of_decide_eq_true b2_
  obtain ⟨ad289, e289, hx289_0⟩ := Kd.at_int HR288_0.out x8_2 p289 q289
  cases e289
  replace hx289_0 := (HB.out.cell (World.block_lt_of_cell? w _ hx289_0)).trans hx289_0
  replace p289 := eq_true p289
  replace q289 := eq_true q289
  try go_wp2_with (first | ((with_reducible refine gate_builtin (b := .append) (xs := #[.tmp 32, .tmp 40]) rfl ?_); at_builtin; refine Kd.R_append (Kd.int .i64) (w0 := w) w.heap.size rfl (.tmp 32) (.tmp 40) 48 2 (.int .i64 0) 8 rfl Try.underlying48 info2 rfl (by decide) (by omega) u3 x3_2 (rd (rd_L2 l0 x7_1) x8_2) [.int .i64 (rd (rd_L2 l0 x7_1) x8_2)] (fun k_ => some k_ ≠ (v272 : Value).ownBlock ∧ some k_ ≠ (v276 : Value).ownBlock) (fun _ => False) rfl rfl ?aP (fun _ hk => hk.elim) ?aF ?aO ?aB ?aS ?aL ?_; (case aP => exact rfl); (case aB => exact b6_); (case aF => exact (fun k_ hk => ⟨Kd.fresh' (Kd.R_lt b25_) k_ hk, Kd.fresh' (Kd.R_lt b16_) k_ hk⟩)); (case aO => exact b10_); (case aS => exact (below_size b6_)); (case aL => have := LMc18.out; omega); intro v291 w23 ho hb hg hat; rw [← Ny290.out] at ho; replace HO_5 := Aside0.mk (Kd.R_after (ok := (fun k_ => some k_ ≠ (v276 : Value).ownBlock)) (by (with_reducible repeat (first | apply Kd.R_alloc | apply Kd.R_drewN | apply Kd.R_drew)); exact Kd.R_mono HO_5.out (fun _ hk => ⟨hk.2, hk.1⟩)) hg hat); replace HO_6 := Aside0.mk (Kd.R_after (ok := (fun k_ => some k_ ≠ (v272 : Value).ownBlock)) (by (with_reducible repeat (first | apply Kd.R_alloc | apply Kd.R_drewN | apply Kd.R_drew)); exact Kd.R_mono HO_6.out (fun _ hk => ⟨hk.2, hk.1⟩)) hg hat); replace HB := Aside0.mk (hb); have HO292 := Aside0.mk (ho); clear HO_3; clear ho hb hg hat))
  replace HO_5 := Aside0.mk (Kd.R_drew HO_5.out)
  replace HO_6 := Aside0.mk (Kd.R_drew HO_6.out)
  replace HO292 := Aside0.mk (Kd.R_drew HO292.out)
  replace HB := Aside0.mk (below_drew1 HB.out)
  obtain ⟨Ao25, co25, eo25⟩ := Kd.R_slice HO_5.out
  (first | subst eo25 | (injection eo25 with f1_ f2_ f3_; have f4_ := f1_.symm; have f5_ := f3_.symm; clear f1_ f2_ f3_; subst f4_; subst f5_))
  have p293 : 0 ≤ (x7_1 : Int) := of_decide_eq_true b2_
  have q293 : x7_1 < (x5_2.length : Int) := of_decide_eq_true b2_
  obtain ⟨ad293, e293, hx293_0⟩ := Kd.at_int (Kd.R_reads' HO_5.out).2.2 x7_1 p293 q293
  cases e293
  replace p293 := eq_true p293
  replace q293 := eq_true q293
  have p294 : 0 ≤ (x7_1 : Int) := of_decide_eq_true b2_
  have q294 : x7_1 < (l0.length : Int) := of_decide_eq_true b2_
  obtain ⟨ad294, A294_0, c294_0, e294, hx294_0, hl294_0, hi294_0⟩ := at_L2 HR0.out x7_1 p294 q294
  have hw294_0 := hx294_0
  obtain rfl : ad274 = ad294 := (by injection e294)
  replace hx294_0 := (HB.out.cell (World.block_lt_of_cell? w _ hx294_0)).trans hx294_0
  have HR294_0 := Aside0.mk hi294_0
  have HC294_0 := Aside0.mk hl294_0
  clear hi294_0 hl294_0
  replace p294 := eq_true p294
  replace q294 := eq_true q294
  have p295 : 0 ≤ (x8_2 : Int) := of_decide_eq_true b2_
  have q295 : x8_2 < ((rd_L2 l0 x7_1).length : Int) := of_decide_eq_true b2_
  obtain ⟨ad295, e295, hx295_0⟩ := Kd.at_int HR294_0.out x8_2 p295 q295
  have hw295_0 := hx295_0
  cases e295
  replace hx295_0 := (HB.out.cell (World.block_lt_of_cell? w _ hx295_0)).trans hx295_0
  replace p295 := eq_true p295
  replace q295 := eq_true q295
  have p20 : 0 ≤ (x7_1 : Int) := of_decide_eq_true b2_
  have q20 : (x7_1 : Int) < ((x5_2.length : Int) : Int) := of_decide_eq_true b2_
  obtain ⟨go20, co20, eo20, gb20, gl20, cl20, HG20⟩ := Kd.R_form HO_5.out (by omega)
  (first | cases eo20 | (injection eo20 with ea_ en_ ec_; (first | subst ea_ | (injection ea_ with ea_; subst ea_)); subst ec_; clear en_))
  have GB20 := Aside0.mk gb20
  have GG20 := Aside0.mk HG20
  clear gb20 gl20 HG20
  (first | simp only [add_plain] at hx293_0 | skip)
  obtain ⟨hx20_0, hf20_0⟩ := Kd.R_celln 0 HO_5.out (x7_1 : Int) p20 q20
  replace p20 := eq_true p20
  replace q20 := eq_true q20
  have HP26 := Kd.R_putn HO_5.out (x7_1 : Int) (wrap64 ((rd x5_2 x7_1) + (rd (rd_L2 l0 x7_1) x8_2)))
  rw [← Ny296.out] at HP26
  have HQ26 := Aside0.mk HP26
  clear HP26
  refine start_ (n := 14) (S := fun w' => w'.cell? ⟨go20, (x7_1).toNat, none⟩ = some (.int .i64 (rd x5_2 x7_1)) ∧ w'.cell? (ad274.add (x7_1).toNat) = some (.slice (some ad295) (rd_L2 l0 x7_1).length c294_0) ∧ w'.cell? (ad295.add (x8_2).toNat) = some (.int .i64 (rd (rd_L2 l0 x7_1) x8_2))) (ds := [13]) #[false, false, false, false, false, false, false, false, false, false, false, false, false, false] (by kernel_rfl) rfl rfl ⟨hx293_0, ((HB.out.cell (World.block_lt_of_cell? w _ hw294_0)).trans hw294_0), ((HB.out.cell (World.block_lt_of_cell? w _ hw295_0)).trans hw295_0)⟩ (fun hHeld => ?_); refine with_tabW forecourtref09_Sums.tab11 forecourtref09_Sums.bits11 (fun HT_ HW_ => ?_)
  generalize w23.drew = w24 at HO_5 HO_6 HO292 HB GG20 HQ26 HR294_0 hf20_0 hx20_0 hx293_0 hx294_0 hx295_0 hHeld ⊢
  refine pA_ 0 (some 42) 14 1 ?_
  refine pA_ 1 (some 43) 14 3 ?_
  refine pA_ 2 (some 44) 14 7 ?_
  refine pA_ 4 (some 46) 14 23 ?_
  refine pA_ 5 (some 47) 14 55 ?_
  refine pA_ 6 (some 48) 14 119 ?_
  refine pA_ 8 (some 50) 14 375 ?_
  refine tE_ 3 (some 45) 14 383 ?_
  refine tE_ 7 (some 49) 14 511 ?_
  refine pA_ 9 (some 51) 14 1023 ?_
  refine tE_ 10 (some 52) 14 2047 ?_
  refine pA_ 11 (some 53) 14 4095 ?_
  refine pA_ 12 (some 54) 14 8191 ?_
  refine oL_ 13 none 14 16383 (fun K hK => ?_)
  refine skip_ (w1 := ?_) (by rfl) rfl ?_ ?_
  rotate_left
  · go_simp
    rfl
  refine hK.out _ _ ?_
  clear hK K
  refine dA_ ?_
  try go_wp2
  have n0_ : Aside0 (Kd.R (Kd.int .i64) 2 (w24.setCell ⟨go20, (x7_1 : Int).toNat, none⟩ (.int .i64 (wrap64 ((rd x5_2 x7_1) + (rd (rd_L2 l0 x7_1) x8_2))))) w.heap.size (fun k_ => some k_ ≠ (v276 : Value).ownBlock ∧ some k_ ≠ (v291 : Value).ownBlock) (.slice (some ⟨go20, 0, none⟩) x5_2.length co25) y296) := ⟨(by (with_reducible repeat (first | apply Kd.R_alloc | apply Kd.R_drewN | apply Kd.R_drew)); exact HQ26.out)⟩
  have n1_ : Aside0 (Kd.R (Kd.int .i64) 2 (w24.setCell ⟨go20, (x7_1 : Int).toNat, none⟩ (.int .i64 (wrap64 ((rd x5_2 x7_1) + (rd (rd_L2 l0 x7_1) x8_2))))) w.heap.size (fun k_ => some k_ ≠ (.slice (some ⟨go20, 0, none⟩) x5_2.length co25 : Value).ownBlock ∧ some k_ ≠ (v291 : Value).ownBlock) v276 x6_2) := ⟨(by (with_reducible repeat (first | apply Kd.R_alloc | apply Kd.R_drewN | apply Kd.R_drew)); exact Kd.R_mono (Kd.R_far (p := ⟨go20, (x7_1 : Int).toNat, none⟩) (Kd.R_mono HO_6.out (fun k_ hk => (⟨hk, fun e_ => hk.1 (by rw [e_]; rfl)⟩ : _ ∧ k_ ≠ go20))) (fun _ hk => hk.2) (.int .i64 (wrap64 ((rd x5_2 x7_1) + (rd (rd_L2 l0 x7_1) x8_2))))) (fun _ hk => ⟨hk.1.1, hk.1.2⟩))⟩
  have n2_ : Aside0 (Kd.R (Kd.int .i64) 2 (w24.setCell ⟨go20, (x7_1 : Int).toNat, none⟩ (.int .i64 (wrap64 ((rd x5_2 x7_1) + (rd (rd_L2 l0 x7_1) x8_2))))) w.heap.size (fun k_ => some k_ ≠ (.slice (some ⟨go20, 0, none⟩) x5_2.length co25 : Value).ownBlock ∧ some k_ ≠ (v276 : Value).ownBlock) v291 y290) := ⟨(by (with_reducible repeat (first | apply Kd.R_alloc | apply Kd.R_drewN | apply Kd.R_drew)); exact Kd.R_mono (Kd.R_far (p := ⟨go20, (x7_1 : Int).toNat, none⟩) (Kd.R_mono HO292.out (fun k_ hk => (⟨hk, fun e_ => hk.1 (by rw [e_]; rfl)⟩ : _ ∧ k_ ≠ go20))) (fun _ hk => hk.2) (.int .i64 (wrap64 ((rd x5_2 x7_1) + (rd (rd_L2 l0 x7_1) x8_2))))) (fun _ hk => ⟨hk.1.1, hk.1.2⟩))⟩
  have n3_ : Aside0 (Below w.heap.size w (w24.setCell ⟨go20, (x7_1 : Int).toNat, none⟩ (.int .i64 (wrap64 ((rd x5_2 x7_1) + (rd (rd_L2 l0 x7_1) x8_2)))))) := ⟨(by repeat (first | (with_reducible first | exact HB.out | apply below_alloc | apply pw_below_drewN | apply below_drew1 | refine below_set ?_ GB20.out) | exact HB.out))⟩
  (try clear HO_5)
  (try clear HO_6)
  (try clear HO292)
  (try clear HB)
  generalize (w24.setCell ⟨go20, (x7_1 : Int).toNat, none⟩ (.int .i64 (wrap64 ((rd x5_2 x7_1) + (rd (rd_L2 l0 x7_1) x8_2))))) = w27 at n0_ n1_ n2_ n3_ ⊢
  have HO_5 := n0_
  have HO_6 := n1_
  have HO292 := n2_
  have HB := n3_
  clear n0_ n1_ n2_ n3_
  replace HO_5 := Aside0.mk (Kd.R_drew HO_5.out)
  replace HO_6 := Aside0.mk (Kd.R_drew HO_6.out)
  replace HO292 := Aside0.mk (Kd.R_drew HO292.out)
  replace HB := Aside0.mk (below_drew1 HB.out)
  obtain ⟨Ao29, co29, eo29⟩ := Kd.R_slice HO_6.out
  (first | subst eo29 | (injection eo29 with f1_ f2_ f3_; have f4_ := f1_.symm; have f5_ := f3_.symm; clear f1_ f2_ f3_; subst f4_; subst f5_))
  have p297 : 0 ≤ (x8_2 : Int) := of_decide_eq_true b2_
  have q297 : x8_2 < (x6_2.length : Int) := of_decide_eq_true b2_
  obtain ⟨ad297, e297, hx297_0⟩ := Kd.at_int (Kd.R_reads' HO_6.out).2.2 x8_2 p297 q297
  cases e297
  replace p297 := eq_true p297
  replace q297 := eq_true q297
  have p298 : 0 ≤ (x7_1 : Int) := of_decide_eq_true b2_
  have q298 : x7_1 < (l0.length : Int) := of_decide_eq_true b2_
  obtain ⟨ad298, A298_0, c298_0, e298, hx298_0, hl298_0, hi298_0⟩ := at_L2 HR0.out x7_1 p298 q298
  have hw298_0 := hx298_0
  obtain rfl : ad274 = ad298 := (by injection e298)
  replace hx298_0 := (HB.out.cell (World.block_lt_of_cell? w _ hx298_0)).trans hx298_0
  have HR298_0 := Aside0.mk hi298_0
  have HC298_0 := Aside0.mk hl298_0
  clear hi298_0 hl298_0
  replace p298 := eq_true p298
  replace q298 := eq_true q298
  have p299 : 0 ≤ (x8_2 : Int) := of_decide_eq_true b2_
  have q299 : x8_2 < ((rd_L2 l0 x7_1).length : Int) := of_decide_eq_true b2_
  obtain ⟨ad299, e299, hx299_0⟩ := Kd.at_int HR298_0.out x8_2 p299 q299
  have hw299_0 := hx299_0
  cases e299
  replace hx299_0 := (HB.out.cell (World.block_lt_of_cell? w _ hx299_0)).trans hx299_0
  replace p299 := eq_true p299
  replace q299 := eq_true q299
  have p22 : 0 ≤ (x8_2 : Int) := of_decide_eq_true b2_
  have q22 : (x8_2 : Int) < ((x6_2.length : Int) : Int) := of_decide_eq_true b2_
  obtain ⟨go22, co22, eo22, gb22, gl22, cl22, HG22⟩ := Kd.R_form HO_6.out (by omega)
  (first | cases eo22 | (injection eo22 with ea_ en_ ec_; (first | subst ea_ | (injection ea_ with ea_; subst ea_)); subst ec_; clear en_))
  have GB22 := Aside0.mk gb22
  have GG22 := Aside0.mk HG22
  clear gb22 gl22 HG22
  (first | simp only [add_plain] at hx297_0 | skip)
  obtain ⟨hx22_0, hf22_0⟩ := Kd.R_celln 0 HO_6.out (x8_2 : Int) p22 q22
  replace p22 := eq_true p22
  replace q22 := eq_true q22
  have HP30 := Kd.R_putn HO_6.out (x8_2 : Int) (wrap64 ((rd x6_2 x8_2) + (rd (rd_L2 l0 x7_1) x8_2)))
  rw [← Ny300.out] at HP30
  have HQ30 := Aside0.mk HP30
  clear HP30
  refine start_ (n := 14) (S := fun w' => w'.cell? ⟨go22, (x8_2).toNat, none⟩ = some (.int .i64 (rd x6_2 x8_2)) ∧ w'.cell? (ad274.add (x7_1).toNat) = some (.slice (some ad299) (rd_L2 l0 x7_1).length c298_0) ∧ w'.cell? (ad299.add (x8_2).toNat) = some (.int .i64 (rd (rd_L2 l0 x7_1) x8_2))) (ds := [13]) #[false, false, false, false, false, false, false, false, false, false, false, false, false, false] (by kernel_rfl) rfl rfl ⟨hx297_0, ((HB.out.cell (World.block_lt_of_cell? w _ hw298_0)).trans hw298_0), ((HB.out.cell (World.block_lt_of_cell? w _ hw299_0)).trans hw299_0)⟩ (fun hHeld => ?_); refine with_tabW forecourtref09_Sums.tab12 forecourtref09_Sums.bits12 (fun HT_ HW_ => ?_)
  generalize w27.drew = w28 at HO_5 HO_6 HO292 HB GG22 HQ26 HQ30 HR298_0 hf22_0 hx22_0 hx297_0 hx298_0 hx299_0 hHeld ⊢
  refine pA_ 0 (some 55) 14 1 ?_
  refine pA_ 1 (some 56) 14 3 ?_
  refine pA_ 2 (some 57) 14 7 ?_
  refine pA_ 4 (some 59) 14 23 ?_
  refine pA_ 5 (some 60) 14 55 ?_
  refine pA_ 6 (some 61) 14 119 ?_
  refine pA_ 8 (some 63) 14 375 ?_
  refine tE_ 3 (some 58) 14 383 ?_
  refine tE_ 7 (some 62) 14 511 ?_
  refine pA_ 9 (some 64) 14 1023 ?_
  refine tE_ 10 (some 65) 14 2047 ?_
  refine pA_ 11 (some 66) 14 4095 ?_
  refine pA_ 12 (some 67) 14 8191 ?_
  refine oL_ 13 none 14 16383 (fun K hK => ?_)
  refine skip_ (w1 := ?_) (by rfl) rfl ?_ ?_
  rotate_left
  · go_simp
    rfl
  refine hK.out _ _ ?_
  clear hK K
  refine dA_ ?_
  have p301 : 0 ≤ (x7_1 : Int) := of_decide_eq_true b2_
  have q301 : x7_1 < (l0.length : Int) := of_decide_eq_true b2_
  obtain ⟨ad301, A301_0, c301_0, e301, hx301_0, hl301_0, hi301_0⟩ := at_L2 HR0.out x7_1 p301 q301
  obtain rfl : ad274 = ad301 := (by injection e301)
  have hn301_0 : ad274.block ≠ go22 := Nat.ne_of_lt (Nat.lt_of_lt_of_le (by have := World.block_lt_of_cell? _ _ hx301_0; first | rwa [add_block] at this | exact this) GB22.out)
  replace hx301_0 := (HB.out.cell (World.block_lt_of_cell? w _ hx301_0)).trans hx301_0
  have HR301_0 := Aside0.mk hi301_0
  have HC301_0 := Aside0.mk hl301_0
  clear hi301_0 hl301_0
  replace hx301_0 := (cell_far (p := ⟨go22, (x8_2 : Int).toNat, none⟩) (by first | (rw [add_block]; exact hn301_0) | (show (Addr.add _ _).block ≠ _; rw [add_block]; exact hn301_0) | exact hn301_0) (.int .i64 (wrap64 ((rd x6_2 x8_2) + (rd (rd_L2 l0 x7_1) x8_2))))).trans hx301_0
  clear hn301_0
  replace p301 := eq_true p301
  replace q301 := eq_true q301
  have p302 : 0 ≤ (x8_2 : Int) := of_decide_eq_true b2_
  have q302 : x8_2 < ((rd_L2 l0 x7_1).length : Int) := of_decide_eq_true b2_
  obtain ⟨ad302, e302, hx302_0⟩ := Kd.at_int HR301_0.out x8_2 p302 q302
  cases e302
  have hn302_0 : ad302.block ≠ go22 := Nat.ne_of_lt (Nat.lt_of_lt_of_le (by have := World.block_lt_of_cell? _ _ hx302_0; first | rwa [add_block] at this | exact this) GB22.out)
  replace hx302_0 := (HB.out.cell (World.block_lt_of_cell? w _ hx302_0)).trans hx302_0
  replace hx302_0 := (cell_far (p := ⟨go22, (x8_2 : Int).toNat, none⟩) (by first | (rw [add_block]; exact hn302_0) | (show (Addr.add _ _).block ≠ _; rw [add_block]; exact hn302_0) | exact hn302_0) (.int .i64 (wrap64 ((rd x6_2 x8_2) + (rd (rd_L2 l0 x7_1) x8_2))))).trans hx302_0
  clear hn302_0
  replace p302 := eq_true p302
  replace q302 := eq_true q302
  try go_wp2
  go_roundg k2
  case measure => have := HK1.out; have := HK2.out; omega
  case rel => exact ⟨(y290), (wrap64 (x4_2 + (rd (rd_L2 l0 x7_1) x8_2))), (y296), (y300), (wrap64 (x8_2 + 1)), b5_, b5_, H', ⟨(by have := HK1.out; have := HK2.out; omega)⟩, ⟨(by (with_reducible repeat (first | apply Kd.R_alloc | apply Kd.R_drewN | apply Kd.R_drew)); exact Kd.R_mono (Kd.R_far (p := ⟨go22, (x8_2 : Int).toNat, none⟩) (Kd.R_mono HO292.out (fun k_ hk => (⟨hk, fun e_ => hk.2 (by rw [e_]; rfl)⟩ : _ ∧ k_ ≠ go22))) (fun _ hk => hk.2) (.int .i64 (wrap64 ((rd x6_2 x8_2) + (rd (rd_L2 l0 x7_1) x8_2))))) (fun _ hk => ⟨hk.1.1, hk.1.2⟩))⟩, ⟨(by (with_reducible repeat (first | apply Kd.R_alloc | apply Kd.R_drewN | apply Kd.R_drew)); exact Kd.R_mono (Kd.R_far (p := ⟨go22, (x8_2 : Int).toNat, none⟩) (Kd.R_mono HO_5.out (fun k_ hk => (⟨hk, fun e_ => hk.1 (by rw [e_]; rfl)⟩ : _ ∧ k_ ≠ go22))) (fun _ hk => hk.2) (.int .i64 (wrap64 ((rd x6_2 x8_2) + (rd (rd_L2 l0 x7_1) x8_2))))) (fun _ hk => ⟨hk.1.2, hk.1.1⟩))⟩, ⟨(by (with_reducible repeat (first | apply Kd.R_alloc | apply Kd.R_drewN | apply Kd.R_drew)); exact Kd.R_mono HQ30.out (fun _ hk => ⟨hk.2, hk.1⟩))⟩, ⟨(by repeat (first | (with_reducible first | exact HB.out | apply below_alloc | apply pw_below_drewN | apply below_drew1 | refine below_set ?_ GB22.out) | exact HB.out))⟩⟩

end Go.Proofs.Ytcgdbjojjpoegaa.P

namespace Go.Proofs.Ytcgdbjojjpoegaa.P
open Go.RowKit Go.Proofs.YtcgdbjojjpoegaaW.PrintWords Go.Proofs.YtcgdbjojjpoegaaW.PrintLast Go.Proofs.YtcgdbjojjpoegaaW.PrintMore
attribute [local go_sem] max2_int min2_int max_two min_two max_three min_three max_four min_four   -- for this text's walks alone
set_option linter.unusedVariables false
set_option linter.unusedSimpArgs false

/-! ### forecourtref09_CheckRounding: function 31 -/
mutual
def forecourtref09_CheckRounding.l0 : Nat → List (List Int) → Int → Int → List (List Int) → Option (Int)
  | 0, _, _, _, _ => none
  | k + 1, x1, x5, x304000, x304001 => if x5 < (x1.length : Int) then (forecourtref09_CheckRounding.l1 k x1 x5 0 x304000 x304001) else ((forecourtref09_Sums.f k x304001).bind fun t312 => ((forecourtref09_Sums.f k x1).bind fun t315 => (forecourtref09_CheckRounding.l2 k t312 t315 0 x304000 x304001)))
def forecourtref09_CheckRounding.l1 : Nat → List (List Int) → Int → Int → Int → List (List Int) → Option (Int)
  | 0, _, _, _, _, _ => none
  | k + 1, x1, x5, x6, x304000, x304001 => if 0 ≤ x5 then (if x5 < (x1.length : Int) then (if x6 < ((rd_L2 x1 x5).length : Int) then (if 0 ≤ x6 then (if (rd (rd_L2 x1 x5) x6) < 0 then (some 16) else (if (rd (rd_L2 x1 x5) x6) > 36000000 then (some 16) else (forecourtref09_CheckRounding.l1 k x1 x5 (wrap64 (x6 + 1)) x304000 x304001))) else (none)) else (forecourtref09_CheckRounding.l0 k x1 (wrap64 (x5 + 1)) x304000 x304001)) else (none)) else (none)
def forecourtref09_CheckRounding.l2 : Nat → List Int → List Int → Int → Int → List (List Int) → Option (Int)
  | 0, _, _, _, _, _ => none
  | k + 1, x7, x8, x9, x304000, x304001 => if x9 < (x7.length : Int) then (if 0 ≤ x9 then (if x9 < (x8.length : Int) then (if x304000 = 0 then (none) else (if (rd x8 x9) = (wrap64 (Int.tdiv (rd x7 x9) x304000)) then (forecourtref09_CheckRounding.l2 k x7 x8 (wrap64 (x9 + 1)) x304000 x304001) else (if (rd x8 x9) = (wrap64 (Int.tdiv (wrap64 ((wrap64 ((rd x7 x9) + x304000)) - 1)) x304000)) then (forecourtref09_CheckRounding.l2 k x7 x8 (wrap64 (x9 + 1)) x304000 x304001) else (some 16)))) else (none)) else (none)) else (some 0)
end
def forecourtref09_CheckRounding.f (k : Nat) (a0_0 : Int) (l0_1 : List (List Int)) (l1 : List (List Int)) : Option (Int) := (forecourtref09_CheckTable.f k a0_0 l0_1).bind fun t304 => (if t304 = 0 then ((forecourtref09_Shaped.f k a0_0 l0_1 l1).bind fun t306 => (if t306 = true then (forecourtref09_CheckRounding.l0 k l1 0 a0_0 l0_1) else (some 15))) else ((forecourtref09_CheckTable.f k a0_0 l0_1).bind fun t305 => (some t305)))
theorem forecourtref09_CheckRounding.mono_l : ∀ k, (∀ y0 y1 y2 y3, LeO (forecourtref09_CheckRounding.l0 k y0 y1 y2 y3) (forecourtref09_CheckRounding.l0 (k + 1) y0 y1 y2 y3)) ∧ (∀ y0 y1 y2 y3 y4, LeO (forecourtref09_CheckRounding.l1 k y0 y1 y2 y3 y4) (forecourtref09_CheckRounding.l1 (k + 1) y0 y1 y2 y3 y4)) ∧ (∀ y0 y1 y2 y3 y4, LeO (forecourtref09_CheckRounding.l2 k y0 y1 y2 y3 y4) (forecourtref09_CheckRounding.l2 (k + 1) y0 y1 y2 y3 y4))
  | 0 => ⟨fun _ _ _ _ r h => by simp [forecourtref09_CheckRounding.l0] at h, fun _ _ _ _ _ r h => by simp [forecourtref09_CheckRounding.l1] at h, fun _ _ _ _ _ r h => by simp [forecourtref09_CheckRounding.l2] at h⟩
  | k + 1 => by
    obtain ⟨ih0, ih1, ih2⟩ := forecourtref09_CheckRounding.mono_l k
    refine ⟨?_, ?_, ?_⟩
    · intro y0 y1 y2 y3
      unfold forecourtref09_CheckRounding.l0
      repeat' first
      | (with_reducible exact ih0 _ _ _ _)
      | (with_reducible exact ih1 _ _ _ _ _)
      | (with_reducible exact ih2 _ _ _ _ _)
      | (with_reducible exact forecourtref09_CheckTable.mono _ _ _)
      | (with_reducible exact forecourtref09_Shaped.mono _ _ _ _)
      | (with_reducible exact forecourtref09_Sums.mono _ _)
      | (with_reducible exact LeO.refl _)
      | (with_reducible exact LeO.none _)
      | (with_reducible refine LeO.ite ?_ ?_)
      | (with_reducible refine LeO.bind ?_ (fun _ => ?_))
      | exact ih0 _ _ _ _
      | exact ih1 _ _ _ _ _
      | exact ih2 _ _ _ _ _
      | exact forecourtref09_CheckTable.mono _ _ _
      | exact forecourtref09_Shaped.mono _ _ _ _
      | exact forecourtref09_Sums.mono _ _
      | exact LeO.none _
      | refine LeO.ite ?_ ?_
      | refine LeO.bind ?_ (fun _ => ?_)
    · intro y0 y1 y2 y3 y4
      unfold forecourtref09_CheckRounding.l1
      repeat' first
      | (with_reducible exact ih0 _ _ _ _)
      | (with_reducible exact ih1 _ _ _ _ _)
      | (with_reducible exact ih2 _ _ _ _ _)
      | (with_reducible exact forecourtref09_CheckTable.mono _ _ _)
      | (with_reducible exact forecourtref09_Shaped.mono _ _ _ _)
      | (with_reducible exact forecourtref09_Sums.mono _ _)
      | (with_reducible exact LeO.refl _)
      | (with_reducible exact LeO.none _)
      | (with_reducible refine LeO.ite ?_ ?_)
      | (with_reducible refine LeO.bind ?_ (fun _ => ?_))
      | exact ih0 _ _ _ _
      | exact ih1 _ _ _ _ _
      | exact ih2 _ _ _ _ _
      | exact forecourtref09_CheckTable.mono _ _ _
      | exact forecourtref09_Shaped.mono _ _ _ _
      | exact forecourtref09_Sums.mono _ _
      | exact LeO.none _
      | refine LeO.ite ?_ ?_
      | refine LeO.bind ?_ (fun _ => ?_)
    · intro y0 y1 y2 y3 y4
      unfold forecourtref09_CheckRounding.l2
      repeat' first
      | (with_reducible exact ih0 _ _ _ _)
      | (with_reducible exact ih1 _ _ _ _ _)
      | (with_reducible exact ih2 _ _ _ _ _)
      | (with_reducible exact forecourtref09_CheckTable.mono _ _ _)
      | (with_reducible exact forecourtref09_Shaped.mono _ _ _ _)
      | (with_reducible exact forecourtref09_Sums.mono _ _)
      | (with_reducible exact LeO.refl _)
      | (with_reducible exact LeO.none _)
      | (with_reducible refine LeO.ite ?_ ?_)
      | (with_reducible refine LeO.bind ?_ (fun _ => ?_))
      | exact ih0 _ _ _ _
      | exact ih1 _ _ _ _ _
      | exact ih2 _ _ _ _ _
      | exact forecourtref09_CheckTable.mono _ _ _
      | exact forecourtref09_Shaped.mono _ _ _ _
      | exact forecourtref09_Sums.mono _ _
      | exact LeO.none _
      | refine LeO.ite ?_ ?_
      | refine LeO.bind ?_ (fun _ => ?_)
theorem forecourtref09_CheckRounding.mono : ∀ a0 a1 a2 k, LeO (forecourtref09_CheckRounding.f k a0 a1 a2) (forecourtref09_CheckRounding.f (k + 1) a0 a1 a2) := by
  intro a0 a1 a2 k
  obtain ⟨ih0, ih1, ih2⟩ := forecourtref09_CheckRounding.mono_l k
  unfold forecourtref09_CheckRounding.f
  repeat' first
      | (with_reducible exact ih0 _ _ _ _)
      | (with_reducible exact ih1 _ _ _ _ _)
      | (with_reducible exact ih2 _ _ _ _ _)
      | (with_reducible exact forecourtref09_CheckTable.mono _ _ _)
      | (with_reducible exact forecourtref09_Shaped.mono _ _ _ _)
      | (with_reducible exact forecourtref09_Sums.mono _ _)
      | (with_reducible exact LeO.refl _)
      | (with_reducible exact LeO.none _)
      | (with_reducible refine LeO.ite ?_ ?_)
      | (with_reducible refine LeO.bind ?_ (fun _ => ?_))
      | exact ih0 _ _ _ _
      | exact ih1 _ _ _ _ _
      | exact ih2 _ _ _ _ _
      | exact forecourtref09_CheckTable.mono _ _ _
      | exact forecourtref09_Shaped.mono _ _ _ _
      | exact forecourtref09_Sums.mono _ _
      | exact LeO.none _
      | refine LeO.ite ?_ ?_
      | refine LeO.bind ?_ (fun _ => ?_)
set_option maxHeartbeats 8000000 in
set_option maxRecDepth 100000 in
theorem forecourtref09_CheckRounding.calls (k : Nat) (a0_0 : Int) (A0_1 : Option Addr) (c0_1 : Nat) (l0_1 : List (List Int)) (A1 : Option Addr) (c1 : Nat) (l1 : List (List Int)) (r : Int) (w : World) (hr0_1 : Kd.C (Kd.slice 2 (Kd.int .i64)) w A0_1 l0_1.length l0_1) (hc0_1 : l0_1.length ≤ c0_1) (hr1 : Kd.C (Kd.slice 2 (Kd.int .i64)) w A1 l1.length l1) (hc1 : l1.length ≤ c1) (h : forecourtref09_CheckRounding.f k a0_0 l0_1 l1 = some r) :
    Calls Try.prog 31 #[.agg #[.int .i64 a0_0, .slice A0_1 l0_1.length c0_1], .slice A1 l1.length c1] w fun e w' => e = .returned (.int .i64 r) ∧ Below w.heap.size w w' := by
  have hu39 := Try.underlying39
  have HR0_1 := Aside0.mk hr0_1
  have HC0_1 := Aside0.mk hc0_1
  clear hr0_1 hc0_1
  have HR1 := Aside0.mk hr1
  have HC1 := Aside0.mk hc1
  clear hr1 hc1
  have HB := Aside0.mk (Below.refl w.heap.size w)
  have H : ((forecourtref09_CheckTable.f k a0_0 l0_1).bind fun t304 => (if t304 = 0 then ((forecourtref09_Shaped.f k a0_0 l0_1 l1).bind fun t306 => (if t306 = true then (forecourtref09_CheckRounding.l0 k l1 0 a0_0 l0_1) else (some 15))) else ((forecourtref09_CheckTable.f k a0_0 l0_1).bind fun t305 => (some t305)))) = some r := h
  clear h
  replace H := Option.bind_eq_some_iff.mp H
  obtain ⟨t304, A30, H⟩ := H
  replace H : (if t304 = 0 then ((forecourtref09_Shaped.f k a0_0 l0_1 l1).bind fun t306 => (if t306 = true then (forecourtref09_CheckRounding.l0 k l1 0 a0_0 l0_1) else (some 15))) else ((forecourtref09_CheckTable.f k a0_0 l0_1).bind fun t305 => (some t305))) = some r := H
  have A3 := Aside0.mk A30
  clear A30
  by_cases c4 : t304 = 0
  rotate_left
  · rw [if_neg c4] at H
    have c4b0 : (t304 == 0) = false := beq_eq_false_iff_ne.mpr c4
    have c4b1 : (t304 != 0) = true := bne_iff_ne.mpr c4
    replace H := Option.bind_eq_some_iff.mp H
    obtain ⟨t305, A450, H⟩ := H
    have H_EQ := Aside0.mk (show t304 = t305 from Option.some.inj (A3.out.symm.trans A450))
    replace H : (some t305) = some r := H
    have A45 := Aside0.mk A450
    clear A450
    obtain rfl := Option.some.inj H
    go_enter Try.func31, Try.ntmps31
    go_wp2_with (first | ((with_reducible refine gate_dst (N := 2) rfl ?_); refine bx_ (cs := #[.int .i64 a0_0, .slice A0_1 l0_1.length c0_1]) (t := 39) (fun gb303 w46 BK303 GE303 HB => ?_); obtain ⟨hcz47_0, hcz47_1, hfz47_0, hfz47_1⟩ := cz2_ BK303.out) | (go_at_call 29; (with_reducible refine (forecourtref09_CheckTable.calls k a0_0 _ _ l0_1 t304 _ ?side1 ?side2 A3.out).mono ?_); (case side1 => repeat (first | exact (Kd.C_below HR0_1.out HB.out) | (with_reducible refine Kd.C_alloc ?_ _) | (with_reducible refine Kd.C_drewN ?_ _) | (with_reducible refine Kd.C_drew ?_))); (case side2 => exact HC0_1.out); rintro e w48 ⟨rfl, hb⟩; replace BK303 := bk_ BK303 hb; replace HB := hB_ HB hb; (try clear hb); obtain ⟨hcz49_0, hcz49_1, hfz49_0, hfz49_1⟩ := cz2_ BK303.out) | (go_at_call 29; (with_reducible refine (forecourtref09_CheckTable.calls k a0_0 _ _ l0_1 t305 _ ?side1 ?side2 A45.out).mono ?_); (case side1 => repeat (first | exact (Kd.C_below HR0_1.out HB.out) | (with_reducible refine Kd.C_alloc ?_ _) | (with_reducible refine Kd.C_drewN ?_ _) | (with_reducible refine Kd.C_drew ?_))); (case side2 => exact HC0_1.out); rintro e w50 ⟨rfl, hb⟩; replace BK303 := bk_ BK303 hb; replace HB := hB_ HB hb; (try clear hb)))
    go_ret
    obtain rfl := H_EQ.out
    exact ⟨b4_, b1_⟩
  rw [if_pos c4] at H
  have c4b0 : (t304 == 0) = true := beq_iff_eq.mpr c4
  have c4b1 : (t304 != 0) = false := bne_eq_false_iff_eq.mpr c4
  clear c4
  replace H := Option.bind_eq_some_iff.mp H
  obtain ⟨t306, A50, H⟩ := H
  replace H : (if t306 = true then (forecourtref09_CheckRounding.l0 k l1 0 a0_0 l0_1) else (some 15)) = some r := H
  have A5 := Aside0.mk A50
  clear A50
  by_cases c6 : t306 = true
  rotate_left
  · replace c6 := Bool.eq_false_iff.mpr c6
    subst c6
    have H1 : (some 15) = some r := by rw [if_neg (show ¬ (false = true) by decide)] at H; exact H
    clear H
    have H := H1
    clear H1
    obtain rfl := Option.some.inj H
    go_enter Try.func31, Try.ntmps31
    go_wp2_with (first | ((with_reducible refine gate_dst (N := 2) rfl ?_); refine bx_ (cs := #[.int .i64 a0_0, .slice A0_1 l0_1.length c0_1]) (t := 39) (fun gb303 w40 BK303 GE303 HB => ?_); obtain ⟨hcz41_0, hcz41_1, hfz41_0, hfz41_1⟩ := cz2_ BK303.out) | (go_at_call 29; (with_reducible refine (forecourtref09_CheckTable.calls k a0_0 _ _ l0_1 t304 _ ?side1 ?side2 A3.out).mono ?_); (case side1 => repeat (first | exact (Kd.C_below HR0_1.out HB.out) | (with_reducible refine Kd.C_alloc ?_ _) | (with_reducible refine Kd.C_drewN ?_ _) | (with_reducible refine Kd.C_drew ?_))); (case side2 => exact HC0_1.out); rintro e w42 ⟨rfl, hb⟩; replace BK303 := bk_ BK303 hb; replace HB := hB_ HB hb; (try clear hb); obtain ⟨hcz43_0, hcz43_1, hfz43_0, hfz43_1⟩ := cz2_ BK303.out) | (go_at_call 41; (with_reducible refine (forecourtref09_Shaped.calls k a0_0 _ _ l0_1 _ _ l1 false _ ?side1 ?side2 ?side3 ?side4 A5.out).mono ?_); (case side1 => repeat (first | exact (Kd.C_below HR0_1.out HB.out) | (with_reducible refine Kd.C_alloc ?_ _) | (with_reducible refine Kd.C_drewN ?_ _) | (with_reducible refine Kd.C_drew ?_))); (case side2 => exact HC0_1.out); (case side3 => repeat (first | exact (Kd.C_below HR1.out HB.out) | (with_reducible refine Kd.C_alloc ?_ _) | (with_reducible refine Kd.C_drewN ?_ _) | (with_reducible refine Kd.C_drew ?_))); (case side4 => exact HC1.out); rintro e w44 ⟨rfl, hb⟩; replace BK303 := bk_ BK303 hb; replace HB := hB_ HB hb; (try clear hb)))
    go_ret
    exact ⟨b4_, b1_⟩
  subst c6
  have H1 : (forecourtref09_CheckRounding.l0 k l1 0 a0_0 l0_1) = some r := by rw [if_pos rfl] at H; exact H
  clear H
  have H := H1
  clear H1
  have H' := Aside0.mk H
  clear H
  go_enter Try.func31, Try.ntmps31
  go_wp2_with (first | ((with_reducible refine gate_dst (N := 2) rfl ?_); refine bx_ (cs := #[.int .i64 a0_0, .slice A0_1 l0_1.length c0_1]) (t := 39) (fun gb303 w7 BK303 GE303 HB => ?_); obtain ⟨hcz8_0, hcz8_1, hfz8_0, hfz8_1⟩ := cz2_ BK303.out) | (go_at_call 29; (with_reducible refine (forecourtref09_CheckTable.calls k a0_0 _ _ l0_1 t304 _ ?side1 ?side2 A3.out).mono ?_); (case side1 => repeat (first | exact (Kd.C_below HR0_1.out HB.out) | (with_reducible refine Kd.C_alloc ?_ _) | (with_reducible refine Kd.C_drewN ?_ _) | (with_reducible refine Kd.C_drew ?_))); (case side2 => exact HC0_1.out); rintro e w9 ⟨rfl, hb⟩; replace BK303 := bk_ BK303 hb; replace HB := hB_ HB hb; (try clear hb); obtain ⟨hcz10_0, hcz10_1, hfz10_0, hfz10_1⟩ := cz2_ BK303.out) | (go_at_call 41; (with_reducible refine (forecourtref09_Shaped.calls k a0_0 _ _ l0_1 _ _ l1 true _ ?side1 ?side2 ?side3 ?side4 A5.out).mono ?_); (case side1 => repeat (first | exact (Kd.C_below HR0_1.out HB.out) | (with_reducible refine Kd.C_alloc ?_ _) | (with_reducible refine Kd.C_drewN ?_ _) | (with_reducible refine Kd.C_drew ?_))); (case side2 => exact HC0_1.out); (case side3 => repeat (first | exact (Kd.C_below HR1.out HB.out) | (with_reducible refine Kd.C_alloc ?_ _) | (with_reducible refine Kd.C_drewN ?_ _) | (with_reducible refine Kd.C_drew ?_))); (case side4 => exact HC1.out); rintro e w11 ⟨rfl, hb⟩; replace BK303 := bk_ BK303 hb; replace HB := hB_ HB hb; (try clear hb)))
  go_loopg [5] k (fun kq v5 w' => ∃ (x5_1 : Int), v5 = .int .i64 x5_1 ∧ Aside0 (forecourtref09_CheckRounding.l0 kq l1 x5_1 a0_0 l0_1 = some r) ∧ Aside0 (kq ≤ k) ∧ Aside0 (w'.heap[gb303]? = some (.cells #[.int .i64 a0_0, (.slice A0_1 l0_1.length c0_1)] 39 (0, 0))) ∧ Aside0 (Below w.heap.size w w'))
  case atStart => exact ⟨(0), b5_, H', ⟨Nat.le_refl _⟩, ⟨b27_⟩, ⟨b1_⟩⟩
  clear H'
  try clear c1
  try clear p2
  try clear c3
  try clear c4
  try clear c4b0
  try clear c4b1
  try clear c6
  try clear hcz10_0
  try clear hcz10_1
  try clear hcz8_0
  try clear hcz8_1
  try clear hfz10_0
  try clear hfz10_1
  try clear hfz8_0
  try clear hfz8_1
  obtain ⟨x5_1, rfl, HA, HK1, BK303, HB⟩ := hrel
  cases gk with
  | zero => exact absurd HA.out (by simp [forecourtref09_CheckRounding.l0])
  | succ k1 => ?_
  have H := HA.out
  clear HA
  simp only [forecourtref09_CheckRounding.l0] at H
  by_cases c12 : x5_1 < (l1.length : Int)
  · rw [if_pos c12] at H
    have c12b0 : decide (x5_1 < (l1.length : Int)) = true := decide_eq_true c12
    clear c12
    have H' := Aside0.mk H
    clear H
    go_wp2
    go_loopg [6] k1 (fun kq v6 w' => ∃ (x6_2 : Int), v6 = .int .i64 x6_2 ∧ Aside0 (forecourtref09_CheckRounding.l1 kq l1 x5_1 x6_2 a0_0 l0_1 = some r) ∧ Aside0 (kq ≤ k1) ∧ Aside0 (w'.heap[gb303]? = some (.cells #[.int .i64 a0_0, (.slice A0_1 l0_1.length c0_1)] 39 (0, 0))) ∧ Aside0 (Below w.heap.size w w'))
    case atStart => exact ⟨(0), b5_, H', ⟨Nat.le_refl _⟩, ⟨b27_⟩, ⟨b1_⟩⟩
    clear H'
    try clear c1
    try clear p2
    try clear c3
    try clear c4
    try clear c4b0
    try clear c4b1
    try clear c6
    try clear c12
    try clear c12b0
    try clear hcz10_0
    try clear hcz10_1
    try clear hcz8_0
    try clear hcz8_1
    try clear hfz10_0
    try clear hfz10_1
    try clear hfz8_0
    try clear hfz8_1
    try clear p2
    obtain ⟨x6_2, rfl, HA, HK2, BK303, HB⟩ := hrel
    cases gk with
    | zero => exact absurd HA.out (by simp [forecourtref09_CheckRounding.l1])
    | succ k2 => ?_
    have H := HA.out
    clear HA
    simp only [forecourtref09_CheckRounding.l1] at H
    by_cases c13 : 0 ≤ x5_1
    rotate_left
    · rw [if_neg c13] at H
      exact absurd H (by simp)
    rw [if_pos c13] at H
    have c13b0 : decide (0 ≤ x5_1) = true := decide_eq_true c13
    clear c13
    by_cases c14 : x5_1 < (l1.length : Int)
    rotate_left
    · rw [if_neg c14] at H
      exact absurd H (by simp)
    rw [if_pos c14] at H
    have c14b0 : decide (x5_1 < (l1.length : Int)) = true := decide_eq_true c14
    clear c14
    by_cases c15 : x6_2 < ((rd_L2 l1 x5_1).length : Int)
    rotate_left
    · rw [if_neg c15] at H
      have c15b0 : decide (x6_2 < ((rd_L2 l1 x5_1).length : Int)) = false := decide_eq_false c15
      clear c15
      have H' := Aside0.mk H
      clear H
      have p307 : 0 ≤ (x5_1 : Int) := of_decide_eq_true b2_
      have q307 : x5_1 < (l1.length : Int) := of_decide_eq_true b2_
      obtain ⟨ad307, A307_0, c307_0, e307, hx307_0, hl307_0, hi307_0⟩ := at_L2 HR1.out x5_1 p307 q307
      cases e307
      replace hx307_0 := (HB.out.cell (World.block_lt_of_cell? w _ hx307_0)).trans hx307_0
      have HR307_0 := Aside0.mk hi307_0
      have HC307_0 := Aside0.mk hl307_0
      clear hi307_0 hl307_0
      replace p307 := eq_true p307
      replace q307 := eq_true q307
      go_wp2
      go_roundg k2
      case measure => have := HK1.out; have := HK2.out; omega
      case rel => exact ⟨(wrap64 (x5_1 + 1)), b5_, H', ⟨(by have := HK1.out; have := HK2.out; omega)⟩, ⟨b27_⟩, ⟨b1_⟩⟩
    rw [if_pos c15] at H
    have c15b0 : decide (x6_2 < ((rd_L2 l1 x5_1).length : Int)) = true := decide_eq_true c15
    clear c15
    by_cases c16 : 0 ≤ x6_2
    rotate_left
    · rw [if_neg c16] at H
      exact absurd H (by simp)
    rw [if_pos c16] at H
    have c16b0 : decide (0 ≤ x6_2) = true := decide_eq_true c16
    clear c16
    by_cases c17 : (rd (rd_L2 l1 x5_1) x6_2) < 0
    · rw [if_pos c17] at H
      have c17b0 : decide ((rd (rd_L2 l1 x5_1) x6_2) < 0) = true := decide_eq_true c17
      clear c17
      obtain rfl := Option.some.inj H
      have p307 : 0 ≤ (x5_1 : Int) := of_decide_eq_true b2_
      have q307 : x5_1 < (l1.length : Int) := of_decide_eq_true b2_
      obtain ⟨ad307, A307_0, c307_0, e307, hx307_0, hl307_0, hi307_0⟩ := at_L2 HR1.out x5_1 p307 q307
      cases e307
      replace hx307_0 := (HB.out.cell (World.block_lt_of_cell? w _ hx307_0)).trans hx307_0
      have HR307_0 := Aside0.mk hi307_0
      have HC307_0 := Aside0.mk hl307_0
      clear hi307_0 hl307_0
      replace p307 := eq_true p307
      replace q307 := eq_true q307
      have p308 : 0 ≤ (x5_1 : Int) := of_decide_eq_true b2_
      have q308 : x5_1 < (l1.length : Int) := of_decide_eq_true b2_
      obtain ⟨ad308, A308_0, c308_0, e308, hx308_0, hl308_0, hi308_0⟩ := at_L2 HR1.out x5_1 p308 q308
      obtain rfl : ad307 = ad308 := (by injection e308)
      replace hx308_0 := (HB.out.cell (World.block_lt_of_cell? w _ hx308_0)).trans hx308_0
      have HR308_0 := Aside0.mk hi308_0
      have HC308_0 := Aside0.mk hl308_0
      clear hi308_0 hl308_0
      replace p308 := eq_true p308
      replace q308 := eq_true q308
      have ea_ := Option.some.inj (hx307_0.symm.trans hx308_0)
      injection ea_ with ea_ en_ ec_
      subst ea_
      subst ec_
      clear en_
      have p309 : 0 ≤ (x6_2 : Int) := of_decide_eq_true b2_
      have q309 : x6_2 < ((rd_L2 l1 x5_1).length : Int) := of_decide_eq_true b2_
      obtain ⟨ad309, e309, hx309_0⟩ := Kd.at_int HR308_0.out x6_2 p309 q309
      cases e309
      replace hx309_0 := (HB.out.cell (World.block_lt_of_cell? w _ hx309_0)).trans hx309_0
      replace p309 := eq_true p309
      replace q309 := eq_true q309
      go_wp2
      go_ret
      exact ⟨b4_, b1_⟩
    rw [if_neg c17] at H
    have c17b0 : decide ((rd (rd_L2 l1 x5_1) x6_2) < 0) = false := decide_eq_false c17
    clear c17
    by_cases c18 : (rd (rd_L2 l1 x5_1) x6_2) > 36000000
    · rw [if_pos c18] at H
      have c18b0 : decide (36000000 < (rd (rd_L2 l1 x5_1) x6_2)) = true := decide_eq_true c18
      clear c18
      obtain rfl := Option.some.inj H
      have p307 : 0 ≤ (x5_1 : Int) := of_decide_eq_true b2_
      have q307 : x5_1 < (l1.length : Int) := of_decide_eq_true b2_
      obtain ⟨ad307, A307_0, c307_0, e307, hx307_0, hl307_0, hi307_0⟩ := at_L2 HR1.out x5_1 p307 q307
      cases e307
      replace hx307_0 := (HB.out.cell (World.block_lt_of_cell? w _ hx307_0)).trans hx307_0
      have HR307_0 := Aside0.mk hi307_0
      have HC307_0 := Aside0.mk hl307_0
      clear hi307_0 hl307_0
      replace p307 := eq_true p307
      replace q307 := eq_true q307
      have p308 : 0 ≤ (x5_1 : Int) := of_decide_eq_true b2_
      have q308 : x5_1 < (l1.length : Int) := of_decide_eq_true b2_
      obtain ⟨ad308, A308_0, c308_0, e308, hx308_0, hl308_0, hi308_0⟩ := at_L2 HR1.out x5_1 p308 q308
      obtain rfl : ad307 = ad308 := (by injection e308)
      replace hx308_0 := (HB.out.cell (World.block_lt_of_cell? w _ hx308_0)).trans hx308_0
      have HR308_0 := Aside0.mk hi308_0
      have HC308_0 := Aside0.mk hl308_0
      clear hi308_0 hl308_0
      replace p308 := eq_true p308
      replace q308 := eq_true q308
      have ea_ := Option.some.inj (hx307_0.symm.trans hx308_0)
      injection ea_ with ea_ en_ ec_
      subst ea_
      subst ec_
      clear en_
      have p309 : 0 ≤ (x6_2 : Int) := of_decide_eq_true b2_
      have q309 : x6_2 < ((rd_L2 l1 x5_1).length : Int) := of_decide_eq_true b2_
      obtain ⟨ad309, e309, hx309_0⟩ := Kd.at_int HR308_0.out x6_2 p309 q309
      cases e309
      replace hx309_0 := (HB.out.cell (World.block_lt_of_cell? w _ hx309_0)).trans hx309_0
      replace p309 := eq_true p309
      replace q309 := eq_true q309
      have p310 : 0 ≤ (x5_1 : Int) := of_decide_eq_true b2_
      have q310 : x5_1 < (l1.length : Int) := of_decide_eq_true b2_
      obtain ⟨ad310, A310_0, c310_0, e310, hx310_0, hl310_0, hi310_0⟩ := at_L2 HR1.out x5_1 p310 q310
      obtain rfl : ad307 = ad310 := (by injection e310)
      replace hx310_0 := (HB.out.cell (World.block_lt_of_cell? w _ hx310_0)).trans hx310_0
      have HR310_0 := Aside0.mk hi310_0
      have HC310_0 := Aside0.mk hl310_0
      clear hi310_0 hl310_0
      replace p310 := eq_true p310
      replace q310 := eq_true q310
      have ea_ := Option.some.inj (hx307_0.symm.trans hx310_0)
      injection ea_ with ea_ en_ ec_
      subst ea_
      subst ec_
      clear en_
      have p311 : 0 ≤ (x6_2 : Int) := of_decide_eq_true b2_
      have q311 : x6_2 < ((rd_L2 l1 x5_1).length : Int) := of_decide_eq_true b2_
      obtain ⟨ad311, e311, hx311_0⟩ := Kd.at_int HR310_0.out x6_2 p311 q311
      cases e311
      replace hx311_0 := (HB.out.cell (World.block_lt_of_cell? w _ hx311_0)).trans hx311_0
      replace p311 := eq_true p311
      replace q311 := eq_true q311
      go_wp2
      go_ret
      exact ⟨b4_, b1_⟩
    rw [if_neg c18] at H
    have c18b0 : decide (36000000 < (rd (rd_L2 l1 x5_1) x6_2)) = false := decide_eq_false c18
    clear c18
    have H' := Aside0.mk H
    clear H
    have p307 : 0 ≤ (x5_1 : Int) := of_decide_eq_true b2_
    have q307 : x5_1 < (l1.length : Int) := of_decide_eq_true b2_
    obtain ⟨ad307, A307_0, c307_0, e307, hx307_0, hl307_0, hi307_0⟩ := at_L2 HR1.out x5_1 p307 q307
    cases e307
    replace hx307_0 := (HB.out.cell (World.block_lt_of_cell? w _ hx307_0)).trans hx307_0
    have HR307_0 := Aside0.mk hi307_0
    have HC307_0 := Aside0.mk hl307_0
    clear hi307_0 hl307_0
    replace p307 := eq_true p307
    replace q307 := eq_true q307
    have p308 : 0 ≤ (x5_1 : Int) := of_decide_eq_true b2_
    have q308 : x5_1 < (l1.length : Int) := of_decide_eq_true b2_
    obtain ⟨ad308, A308_0, c308_0, e308, hx308_0, hl308_0, hi308_0⟩ := at_L2 HR1.out x5_1 p308 q308
    obtain rfl : ad307 = ad308 := (by injection e308)
    replace hx308_0 := (HB.out.cell (World.block_lt_of_cell? w _ hx308_0)).trans hx308_0
    have HR308_0 := Aside0.mk hi308_0
    have HC308_0 := Aside0.mk hl308_0
    clear hi308_0 hl308_0
    replace p308 := eq_true p308
    replace q308 := eq_true q308
    have ea_ := Option.some.inj (hx307_0.symm.trans hx308_0)
    injection ea_ with ea_ en_ ec_
    subst ea_
    subst ec_
    clear en_
    have p309 : 0 ≤ (x6_2 : Int) := of_decide_eq_true b2_
    have q309 : x6_2 < ((rd_L2 l1 x5_1).length : Int) := of_decide_eq_true b2_
    obtain ⟨ad309, e309, hx309_0⟩ := Kd.at_int HR308_0.out x6_2 p309 q309
    cases e309
    replace hx309_0 := (HB.out.cell (World.block_lt_of_cell? w _ hx309_0)).trans hx309_0
    replace p309 := eq_true p309
    replace q309 := eq_true q309
    have p310 : 0 ≤ (x5_1 : Int) := of_decide_eq_true b2_
    have q310 : x5_1 < (l1.length : Int) := of_decide_eq_true b2_
    obtain ⟨ad310, A310_0, c310_0, e310, hx310_0, hl310_0, hi310_0⟩ := at_L2 HR1.out x5_1 p310 q310
    obtain rfl : ad307 = ad310 := (by injection e310)
    replace hx310_0 := (HB.out.cell (World.block_lt_of_cell? w _ hx310_0)).trans hx310_0
    have HR310_0 := Aside0.mk hi310_0
    have HC310_0 := Aside0.mk hl310_0
    clear hi310_0 hl310_0
    replace p310 := eq_true p310
    replace q310 := eq_true q310
    have ea_ := Option.some.inj (hx307_0.symm.trans hx310_0)
    injection ea_ with ea_ en_ ec_
    subst ea_
    subst ec_
    clear en_
    have p311 : 0 ≤ (x6_2 : Int) := of_decide_eq_true b2_
    have q311 : x6_2 < ((rd_L2 l1 x5_1).length : Int) := of_decide_eq_true b2_
    obtain ⟨ad311, e311, hx311_0⟩ := Kd.at_int HR310_0.out x6_2 p311 q311
    cases e311
    replace hx311_0 := (HB.out.cell (World.block_lt_of_cell? w _ hx311_0)).trans hx311_0
    replace p311 := eq_true p311
    replace q311 := eq_true q311
    go_wp2
    go_roundg k2
    case measure => have := HK1.out; have := HK2.out; omega
    case rel => exact ⟨(wrap64 (x6_2 + 1)), b5_, H', ⟨(by have := HK1.out; have := HK2.out; omega)⟩, ⟨b27_⟩, ⟨b1_⟩⟩
  rw [if_neg c12] at H
  have c12b0 : decide (x5_1 < (l1.length : Int)) = false := decide_eq_false c12
  clear c12
  replace H := Option.bind_eq_some_iff.mp H
  obtain ⟨t312, A190, H⟩ := H
  replace H : ((forecourtref09_Sums.f k1 l1).bind fun t315 => (forecourtref09_CheckRounding.l2 k1 t312 t315 0 a0_0 l0_1)) = some r := H
  have A19 := Aside0.mk A190
  clear A190
  replace H := Option.bind_eq_some_iff.mp H
  obtain ⟨t315, A200, H⟩ := H
  replace H : (forecourtref09_CheckRounding.l2 k1 t312 t315 0 a0_0 l0_1) = some r := H
  have A20 := Aside0.mk A200
  clear A200
  have H' := Aside0.mk H
  clear H
  obtain ⟨hcz21_0, hcz21_1, hfz21_0, hfz21_1⟩ := cz2_ BK303.out
  go_wp2_with (first | (go_at_call 42; (with_reducible refine (forecourtref09_Sums.calls k1 _ _ l0_1 t312 _ ?side1 ?side2 A19.out).mono ?_); (case side1 => repeat (first | exact (Kd.C_below HR0_1.out HB.out) | (with_reducible refine Kd.C_alloc ?_ _) | (with_reducible refine Kd.C_drewN ?_ _) | (with_reducible refine Kd.C_drew ?_))); (case side2 => exact HC0_1.out); rintro e w22 ⟨v313, rfl, ho0, hb⟩; have HO314 := Aside0.mk (Kd.R_lower ho0 (below_size b1_)); replace BK303 := bk_ BK303 hb; replace HB := hB_ HB hb; (try clear hb)) | (go_at_call 42; (with_reducible refine (forecourtref09_Sums.calls k1 _ _ l1 t315 _ ?side1 ?side2 A20.out).mono ?_); (case side1 => repeat (first | exact (Kd.C_below HR1.out HB.out) | (with_reducible refine Kd.C_alloc ?_ _) | (with_reducible refine Kd.C_drewN ?_ _) | (with_reducible refine Kd.C_drew ?_))); (case side2 => exact HC1.out); rintro e w23 ⟨v316, rfl, ho0, hb⟩; have HO317 := Aside0.mk (Kd.R_lower (Kd.R_new' ho0 (Kd.R_lt b30_)) (below_size b1_)); replace HO314 := Aside0.mk (Kd.R_elder' b30_ (Kd.R_base ho0) hb); replace BK303 := bk_ BK303 hb; replace HB := hB_ HB hb; (try clear hb)))
  go_loopg [9] k1 (fun kq v9 w' => ∃ (x9_2 : Int), v9 = .int .i64 x9_2 ∧ Aside0 (forecourtref09_CheckRounding.l2 kq t312 t315 x9_2 a0_0 l0_1 = some r) ∧ Aside0 (kq ≤ k1) ∧ Aside0 (Kd.R (Kd.int .i64) 2 w' w.heap.size (fun k_ => some k_ ≠ (v316 : Value).ownBlock) v313 t312) ∧ Aside0 (Kd.R (Kd.int .i64) 2 w' w.heap.size (fun k_ => some k_ ≠ (v313 : Value).ownBlock) v316 t315) ∧ Aside0 (w'.heap[gb303]? = some (.cells #[.int .i64 a0_0, (.slice A0_1 l0_1.length c0_1)] 39 (0, 0))) ∧ Aside0 (Below w.heap.size w w'))
  case atStart => exact ⟨(0), b5_, H', ⟨Nat.le_refl _⟩, ⟨(by (with_reducible repeat (first | apply Kd.R_alloc | apply Kd.R_drewN | apply Kd.R_drew)); exact Kd.R_mono HO314.out (fun _ hk => hk.2))⟩, ⟨(by (with_reducible repeat (first | apply Kd.R_alloc | apply Kd.R_drewN | apply Kd.R_drew)); exact Kd.R_mono HO317.out (fun _ hk => hk.2))⟩, ⟨b27_⟩, ⟨b1_⟩⟩
  clear H'
  try clear c1
  try clear p2
  try clear c3
  try clear p3
  try clear q3
  try clear hx3
  try clear c4
  try clear c4b0
  try clear c4b1
  try clear c6
  try clear p6
  try clear c12
  try clear c12b0
  try clear c13
  try clear c13b0
  try clear c14
  try clear c14b0
  try clear c15
  try clear c15b0
  try clear c16
  try clear c16b0
  try clear c17
  try clear c17b0
  try clear c18
  try clear c18b0
  try clear hcz10_0
  try clear hcz10_1
  try clear hcz21_0
  try clear hcz21_1
  try clear hcz8_0
  try clear hcz8_1
  try clear hfz10_0
  try clear hfz10_1
  try clear hfz21_0
  try clear hfz21_1
  try clear hfz8_0
  try clear hfz8_1
  try clear hx307_0
  try clear hx308_0
  try clear hx309_0
  try clear hx310_0
  try clear hx311_0
  try clear p2
  try clear p307
  try clear p308
  try clear p309
  try clear p310
  try clear p311
  try clear q307
  try clear q308
  try clear q309
  try clear q310
  try clear q311
  obtain ⟨x9_2, rfl, HA, HK2, HO_7, HO_8, BK303, HB⟩ := hrel
  cases gk with
  | zero => exact absurd HA.out (by simp [forecourtref09_CheckRounding.l2])
  | succ k2 => ?_
  have H := HA.out
  clear HA
  simp only [forecourtref09_CheckRounding.l2] at H
  by_cases c24 : x9_2 < (t312.length : Int)
  rotate_left
  · rw [if_neg c24] at H
    have c24b0 : decide (x9_2 < (t312.length : Int)) = false := decide_eq_false c24
    clear c24
    obtain rfl := Option.some.inj H
    obtain ⟨Ao39, co39, eo39⟩ := Kd.R_slice HO_7.out
    subst eo39
    go_wp2
    go_ret
    exact ⟨b4_, b1_⟩
  rw [if_pos c24] at H
  have c24b0 : decide (x9_2 < (t312.length : Int)) = true := decide_eq_true c24
  clear c24
  by_cases c25 : 0 ≤ x9_2
  rotate_left
  · rw [if_neg c25] at H
    exact absurd H (by simp)
  rw [if_pos c25] at H
  have c25b0 : decide (0 ≤ x9_2) = true := decide_eq_true c25
  clear c25
  by_cases c26 : x9_2 < (t315.length : Int)
  rotate_left
  · rw [if_neg c26] at H
    exact absurd H (by simp)
  rw [if_pos c26] at H
  have c26b0 : decide (x9_2 < (t315.length : Int)) = true := decide_eq_true c26
  clear c26
  by_cases c27 : a0_0 = 0
  · rw [if_pos c27] at H
    exact absurd H (by simp)
  rw [if_neg c27] at H
  have c27b0 : (a0_0 == 0) = false := beq_eq_false_iff_ne.mpr c27
  have c27b1 : (a0_0 != 0) = true := bne_iff_ne.mpr c27
  by_cases c28 : (rd t315 x9_2) = (wrap64 (Int.tdiv (rd t312 x9_2) a0_0))
  · rw [if_pos c28] at H
    have c28b0 : ((rd t315 x9_2) == (wrap64 (Int.tdiv (rd t312 x9_2) a0_0))) = true := beq_iff_eq.mpr c28
    have c28b1 : ((rd t315 x9_2) != (wrap64 (Int.tdiv (rd t312 x9_2) a0_0))) = false := bne_eq_false_iff_eq.mpr c28
    clear c28
    have H' := Aside0.mk H
    clear H
    obtain ⟨Ao29, co29, eo29⟩ := Kd.R_slice HO_7.out
    subst eo29
    obtain ⟨Ao30, co30, eo30⟩ := Kd.R_slice HO_8.out
    subst eo30
    have p318 : 0 ≤ (x9_2 : Int) := of_decide_eq_true b2_
    have q318 : x9_2 < (t315.length : Int) := of_decide_eq_true b2_
    obtain ⟨ad318, e318, hx318_0⟩ := Kd.at_int (Kd.R_reads' HO_8.out).2.2 x9_2 p318 q318
    cases e318
    replace p318 := eq_true p318
    replace q318 := eq_true q318
    have p319 : 0 ≤ (x9_2 : Int) := of_decide_eq_true b2_
    have q319 : x9_2 < (t312.length : Int) := of_decide_eq_true b2_
    obtain ⟨ad319, e319, hx319_0⟩ := Kd.at_int (Kd.R_reads' HO_7.out).2.2 x9_2 p319 q319
    cases e319
    replace p319 := eq_true p319
    replace q319 := eq_true q319
    obtain ⟨hcz31_0, hcz31_1, hfz31_0, hfz31_1⟩ := cz2_ BK303.out
    go_wp2
    repeat (go_quiet (fail); try go_wp2)
    go_roundg k2
    case measure => have := HK1.out; have := HK2.out; omega
    case rel => exact ⟨(wrap64 (x9_2 + 1)), b5_, H', ⟨(by have := HK1.out; have := HK2.out; omega)⟩, ⟨b18_⟩, ⟨(by (with_reducible repeat (first | apply Kd.R_alloc | apply Kd.R_drewN | apply Kd.R_drew)); exact HO_8.out)⟩, ⟨b27_⟩, ⟨b1_⟩⟩
  rw [if_neg c28] at H
  have c28b0 : ((rd t315 x9_2) == (wrap64 (Int.tdiv (rd t312 x9_2) a0_0))) = false := beq_eq_false_iff_ne.mpr c28
  have c28b1 : ((rd t315 x9_2) != (wrap64 (Int.tdiv (rd t312 x9_2) a0_0))) = true := bne_iff_ne.mpr c28
  by_cases c32 : (rd t315 x9_2) = (wrap64 (Int.tdiv (wrap64 ((wrap64 ((rd t312 x9_2) + a0_0)) - 1)) a0_0))
  rotate_left
  · rw [if_neg c32] at H
    have c32b0 : ((rd t315 x9_2) == (wrap64 (Int.tdiv (wrap64 ((wrap64 ((rd t312 x9_2) + a0_0)) - 1)) a0_0))) = false := beq_eq_false_iff_ne.mpr c32
    have c32b1 : ((rd t315 x9_2) != (wrap64 (Int.tdiv (wrap64 ((wrap64 ((rd t312 x9_2) + a0_0)) - 1)) a0_0))) = true := bne_iff_ne.mpr c32
    obtain rfl := Option.some.inj H
    obtain ⟨Ao36, co36, eo36⟩ := Kd.R_slice HO_7.out
    subst eo36
    obtain ⟨Ao37, co37, eo37⟩ := Kd.R_slice HO_8.out
    subst eo37
    have p318 : 0 ≤ (x9_2 : Int) := of_decide_eq_true b2_
    have q318 : x9_2 < (t315.length : Int) := of_decide_eq_true b2_
    obtain ⟨ad318, e318, hx318_0⟩ := Kd.at_int (Kd.R_reads' HO_8.out).2.2 x9_2 p318 q318
    cases e318
    replace p318 := eq_true p318
    replace q318 := eq_true q318
    have p319 : 0 ≤ (x9_2 : Int) := of_decide_eq_true b2_
    have q319 : x9_2 < (t312.length : Int) := of_decide_eq_true b2_
    obtain ⟨ad319, e319, hx319_0⟩ := Kd.at_int (Kd.R_reads' HO_7.out).2.2 x9_2 p319 q319
    cases e319
    replace p319 := eq_true p319
    replace q319 := eq_true q319
    obtain ⟨hcz38_0, hcz38_1, hfz38_0, hfz38_1⟩ := cz2_ BK303.out
    have p320 : 0 ≤ (x9_2 : Int) := of_decide_eq_true b2_
    have q320 : x9_2 < (t315.length : Int) := of_decide_eq_true b2_
    obtain ⟨ad320, e320, hx320_0⟩ := Kd.at_int (Kd.R_reads' HO_8.out).2.2 x9_2 p320 q320
    obtain rfl : ad318 = ad320 := (by injection e320)
    replace p320 := eq_true p320
    replace q320 := eq_true q320
    have p321 : 0 ≤ (x9_2 : Int) := of_decide_eq_true b2_
    have q321 : x9_2 < (t312.length : Int) := of_decide_eq_true b2_
    obtain ⟨ad321, e321, hx321_0⟩ := Kd.at_int (Kd.R_reads' HO_7.out).2.2 x9_2 p321 q321
    obtain rfl : ad319 = ad321 := (by injection e321)
    replace p321 := eq_true p321
    replace q321 := eq_true q321
    go_wp2
    repeat (go_quiet (fail); try go_wp2)
    go_ret
    exact ⟨b4_, b1_⟩
  rw [if_pos c32] at H
  have c32b0 : ((rd t315 x9_2) == (wrap64 (Int.tdiv (wrap64 ((wrap64 ((rd t312 x9_2) + a0_0)) - 1)) a0_0))) = true := beq_iff_eq.mpr c32
  have c32b1 : ((rd t315 x9_2) != (wrap64 (Int.tdiv (wrap64 ((wrap64 ((rd t312 x9_2) + a0_0)) - 1)) a0_0))) = false := bne_eq_false_iff_eq.mpr c32
  clear c32
  have H' := Aside0.mk H
  clear H
  obtain ⟨Ao33, co33, eo33⟩ := Kd.R_slice HO_7.out
  subst eo33
  obtain ⟨Ao34, co34, eo34⟩ := Kd.R_slice HO_8.out
  subst eo34
  have p318 : 0 ≤ (x9_2 : Int) := of_decide_eq_true b2_
  have q318 : x9_2 < (t315.length : Int) := of_decide_eq_true b2_
  obtain ⟨ad318, e318, hx318_0⟩ := Kd.at_int (Kd.R_reads' HO_8.out).2.2 x9_2 p318 q318
  cases e318
  replace p318 := eq_true p318
  replace q318 := eq_true q318
  have p319 : 0 ≤ (x9_2 : Int) := of_decide_eq_true b2_
  have q319 : x9_2 < (t312.length : Int) := of_decide_eq_true b2_
  obtain ⟨ad319, e319, hx319_0⟩ := Kd.at_int (Kd.R_reads' HO_7.out).2.2 x9_2 p319 q319
  cases e319
  replace p319 := eq_true p319
  replace q319 := eq_true q319
  obtain ⟨hcz35_0, hcz35_1, hfz35_0, hfz35_1⟩ := cz2_ BK303.out
  have p320 : 0 ≤ (x9_2 : Int) := of_decide_eq_true b2_
  have q320 : x9_2 < (t315.length : Int) := of_decide_eq_true b2_
  obtain ⟨ad320, e320, hx320_0⟩ := Kd.at_int (Kd.R_reads' HO_8.out).2.2 x9_2 p320 q320
  obtain rfl : ad318 = ad320 := (by injection e320)
  replace p320 := eq_true p320
  replace q320 := eq_true q320
  have p321 : 0 ≤ (x9_2 : Int) := of_decide_eq_true b2_
  have q321 : x9_2 < (t312.length : Int) := of_decide_eq_true b2_
  obtain ⟨ad321, e321, hx321_0⟩ := Kd.at_int (Kd.R_reads' HO_7.out).2.2 x9_2 p321 q321
  obtain rfl : ad319 = ad321 := (by injection e321)
  replace p321 := eq_true p321
  replace q321 := eq_true q321
  go_wp2
  repeat (go_quiet (fail); try go_wp2)
  go_roundg k2
  case measure => have := HK1.out; have := HK2.out; omega
  case rel => exact ⟨(wrap64 (x9_2 + 1)), b5_, H', ⟨(by have := HK1.out; have := HK2.out; omega)⟩, ⟨b18_⟩, ⟨(by (with_reducible repeat (first | apply Kd.R_alloc | apply Kd.R_drewN | apply Kd.R_drew)); exact HO_8.out)⟩, ⟨b27_⟩, ⟨b1_⟩⟩

end Go.Proofs.Ytcgdbjojjpoegaa.P

namespace Go.Proofs.Ytcgdbjojjpoegaa.P
open Go.RowKit Go.Proofs.YtcgdbjojjpoegaaW.PrintWords Go.Proofs.YtcgdbjojjpoegaaW.PrintLast Go.Proofs.YtcgdbjojjpoegaaW.PrintMore
attribute [local go_sem] max2_int min2_int max_two min_two max_three min_three max_four min_four   -- for this text's walks alone
set_option linter.unusedVariables false
set_option linter.unusedSimpArgs false

/-! ### pole_Round: function 32 -/
def pole_Round.f (a0_0 : Int) (l0_1 : List (List Int)) : Option ((List (List Int)) × Int) := (pole_CheckTable.f a0_0 l0_1).bind fun t323 => (if t323 = 0 then ((pole_round.f a0_0 l0_1).bind fun t324 => (some (t324, 0))) else (some (([] : List (List Int)), t323)))
set_option maxHeartbeats 8000000 in
set_option maxRecDepth 100000 in
theorem pole_Round.calls (a0_0 : Int) (A0_1 : Option Addr) (c0_1 : Nat) (l0_1 : List (List Int)) (r1 : List (List Int)) (r2 : Int) (w : World) (hr0_1 : Kd.C (Kd.slice 2 (Kd.int .i64)) w A0_1 l0_1.length l0_1) (hc0_1 : l0_1.length ≤ c0_1) (h : pole_Round.f a0_0 l0_1 = some (r1, r2)) :
    Calls Try.prog 32 #[.agg #[.int .i64 a0_0, .slice A0_1 l0_1.length c0_1]] w fun e w' => ∃ v0_ : Value, e = .returned (.tuple #[v0_, .int .i64 r2]) ∧ Kd.S (Kd.slice 2 (Kd.int .i64)) 48 w' w.heap.size (fun _ => True) v0_ r1 ∧ Below w.heap.size w w' := by
  have hu39 := Try.underlying39
  have HR0_1 := Aside0.mk hr0_1
  have HC0_1 := Aside0.mk hc0_1
  clear hr0_1 hc0_1
  have HB := Aside0.mk (Below.refl w.heap.size w)
  have H : ((pole_CheckTable.f a0_0 l0_1).bind fun t323 => (if t323 = 0 then ((pole_round.f a0_0 l0_1).bind fun t324 => (some (t324, 0))) else (some (([] : List (List Int)), t323)))) = some (r1, r2) := h
  clear h
  replace H := Option.bind_eq_some_iff.mp H
  obtain ⟨t323, A20, H⟩ := H
  replace H : (if t323 = 0 then ((pole_round.f a0_0 l0_1).bind fun t324 => (some (t324, 0))) else (some (([] : List (List Int)), t323))) = some (r1, r2) := H
  have A2 := Aside0.mk A20
  clear A20
  by_cases c3 : t323 = 0
  rotate_left
  · rw [if_neg c3] at H
    have c3b0 : (t323 == 0) = false := beq_eq_false_iff_ne.mpr c3
    have c3b1 : (t323 != 0) = true := bne_iff_ne.mpr c3
    simp only [Option.some.injEq, Prod.mk.injEq] at H
    obtain ⟨rfl, rfl⟩ := H
    go_enter Try.func32, Try.ntmps32
    go_wp2_with (first | ((with_reducible refine gate_dst (N := 1) rfl ?_); refine bx_ (cs := #[.int .i64 a0_0, .slice A0_1 l0_1.length c0_1]) (t := 39) (fun gb322 w10 BK322 GE322 HB => ?_); obtain ⟨hcz11_0, hcz11_1, hfz11_0, hfz11_1⟩ := cz2_ BK322.out) | ((with_reducible refine gate_callee (f := 28) rfl ?_); refine goesL_ (some 6) rfl rfl Try.func28 (by kernel_rfl) rfl #[.agg #[.int .i64 a0_0, .slice A0_1 l0_1.length c0_1]] rfl b3_ ?_; (with_reducible refine (pole_CheckTable.calls a0_0 _ _ l0_1 t323 _ ?side1 ?side2 A2.out).mono ?_); (case side1 => repeat (first | exact (Kd.C_below HR0_1.out HB.out) | (with_reducible refine Kd.C_alloc ?_ _) | (with_reducible refine Kd.C_drewN ?_ _) | (with_reducible refine Kd.C_drew ?_))); (case side2 => exact HC0_1.out); rintro e w12 ⟨rfl, hb⟩; refine ⟨_, rfl, ?_⟩; replace BK322 := bk_ BK322 hb; replace HB := hB_ HB hb; (try clear hb)))
    go_ret2
    exact ⟨_, b4_, (by first | exact Kd.S_nil _ _ _ _ _ | exact Kd.N_nil _ _ _ _ _ | exact Kd.V_nil _ _ _ _ _ | exact Kd.Q_nil _ _ _ _ _ | exact Kd.R_nil _ _ _ _ _), b1_⟩
  rw [if_pos c3] at H
  have c3b0 : (t323 == 0) = true := beq_iff_eq.mpr c3
  have c3b1 : (t323 != 0) = false := bne_eq_false_iff_eq.mpr c3
  clear c3
  replace H := Option.bind_eq_some_iff.mp H
  obtain ⟨t324, A40, H⟩ := H
  replace H : (some (t324, 0)) = some (r1, r2) := H
  have A4 := Aside0.mk A40
  clear A40
  simp only [Option.some.injEq, Prod.mk.injEq] at H
  obtain ⟨rfl, rfl⟩ := H
  go_enter Try.func32, Try.ntmps32
  go_wp2_with (first | ((with_reducible refine gate_dst (N := 1) rfl ?_); refine bx_ (cs := #[.int .i64 a0_0, .slice A0_1 l0_1.length c0_1]) (t := 39) (fun gb322 w5 BK322 GE322 HB => ?_); obtain ⟨hcz6_0, hcz6_1, hfz6_0, hfz6_1⟩ := cz2_ BK322.out) | ((with_reducible refine gate_callee (f := 28) rfl ?_); refine goesL_ (some 6) rfl rfl Try.func28 (by kernel_rfl) rfl #[.agg #[.int .i64 a0_0, .slice A0_1 l0_1.length c0_1]] rfl b3_ ?_; (with_reducible refine (pole_CheckTable.calls a0_0 _ _ l0_1 t323 _ ?side1 ?side2 A2.out).mono ?_); (case side1 => repeat (first | exact (Kd.C_below HR0_1.out HB.out) | (with_reducible refine Kd.C_alloc ?_ _) | (with_reducible refine Kd.C_drewN ?_ _) | (with_reducible refine Kd.C_drew ?_))); (case side2 => exact HC0_1.out); rintro e w7 ⟨rfl, hb⟩; refine ⟨_, rfl, ?_⟩; replace BK322 := bk_ BK322 hb; replace HB := hB_ HB hb; (try clear hb); obtain ⟨hcz8_0, hcz8_1, hfz8_0, hfz8_1⟩ := cz2_ BK322.out) | ((with_reducible refine gate_callee (f := 68) rfl ?_); refine goesL_ (some 11) rfl rfl Try.func68 (by kernel_rfl) rfl #[.agg #[.int .i64 a0_0, .slice A0_1 l0_1.length c0_1]] rfl b3_ ?_; (with_reducible refine (pole_round.calls a0_0 _ _ l0_1 t324 _ ?side1 ?side2 A4.out).mono ?_); (case side1 => repeat (first | exact (Kd.C_below HR0_1.out HB.out) | (with_reducible refine Kd.C_alloc ?_ _) | (with_reducible refine Kd.C_drewN ?_ _) | (with_reducible refine Kd.C_drew ?_))); (case side2 => exact HC0_1.out); rintro e w9 ⟨v325, rfl, ho0, hb⟩; refine ⟨_, rfl, ?_⟩; have HO326 := Aside0.mk (Kd.S_lower ho0 (below_size b1_)); replace BK322 := bk_ BK322 hb; replace HB := hB_ HB hb; (try clear hb)))
  go_ret2
  exact ⟨_, b4_, (by (with_reducible repeat (first | apply Kd.S_alloc | apply Kd.S_drewN | apply Kd.S_drew)); exact HO326.out), b1_⟩

end Go.Proofs.Ytcgdbjojjpoegaa.P

namespace Go.Proofs.Ytcgdbjojjpoegaa.P
open Go.RowKit Go.Proofs.YtcgdbjojjpoegaaW.PrintWords Go.Proofs.YtcgdbjojjpoegaaW.PrintLast Go.Proofs.YtcgdbjojjpoegaaW.PrintMore
attribute [local go_sem] max2_int min2_int max_two min_two max_three min_three max_four min_four   -- for this text's walks alone
set_option linter.unusedVariables false
set_option linter.unusedSimpArgs false

/-! ### forecourtlaw09_rg: function 37 -/
def forecourtlaw09_rg.f (a0 : Int) (a1 : Int) : Option (Int × Int) := some (a0, a1)
set_option maxHeartbeats 8000000 in
set_option maxRecDepth 100000 in
theorem forecourtlaw09_rg.calls (a0 : Int) (a1 : Int) (r1 : Int) (r2 : Int) (w : World) (h : forecourtlaw09_rg.f a0 a1 = some (r1, r2)) :
    Calls Try.prog 37 #[.int .i64 a0, .int .i64 a1] w fun e w' => e = .returned (.agg #[.int .i64 r1, .int .i64 r2]) ∧ Below w.heap.size w w' := by
  have hu24 := Try.underlying24
  have HB := Aside0.mk (Below.refl w.heap.size w)
  have H : (some (a0, a1)) = some (r1, r2) := h
  clear h
  simp only [Option.some.injEq, Prod.mk.injEq] at H
  obtain ⟨rfl, rfl⟩ := H
  go_enter Try.func37, Try.ntmps37
  go_wp2_with (first | ((with_reducible refine gate_dst (N := 4) rfl ?_); refine bx_ (cs := #[.int .i64 0, .int .i64 0]) (t := 24) (fun gb327 w3 BK327 GE327 HB => ?_); obtain ⟨hcz4_0, hcz4_1, hfz4_0, hfz4_1⟩ := cz2_ BK327.out))
  refine bodyPost_ret (results_cell_row rfl _ _ gb327 24 #[.int .i64 a0, .int .i64 a1] (0, 0) _ rfl (by (with_reducible repeat (first | refine blk_drewN ?_ _ | refine blk_drew ?_ | refine blk_alloc ?_ _)); refine blk_put (cs := #[.int .i64 a0, .int .i64 0]) ?_ 1 _ rfl; (with_reducible repeat (first | refine blk_drewN ?_ _ | refine blk_drew ?_ | refine blk_alloc ?_ _)); refine blk_put (cs := #[.int .i64 0, .int .i64 0]) ?_ 0 _ rfl; (with_reducible repeat (first | refine blk_drewN ?_ _ | refine blk_drew ?_ | refine blk_alloc ?_ _)); exact BK327.out) Try.underlying24 rfl (by kernel_rfl)) rfl ?_
  exact ⟨b4_, b1_⟩

end Go.Proofs.Ytcgdbjojjpoegaa.P

namespace Go.Proofs.Ytcgdbjojjpoegaa.P
open Go.RowKit Go.Proofs.YtcgdbjojjpoegaaW.PrintWords Go.Proofs.YtcgdbjojjpoegaaW.PrintLast Go.Proofs.YtcgdbjojjpoegaaW.PrintMore
attribute [local go_sem] max2_int min2_int max_two min_two max_three min_three max_four min_four   -- for this text's walks alone
set_option linter.unusedVariables false
set_option linter.unusedSimpArgs false

/-! ### forecourtlaw09_Price: function 38 -/
def forecourtlaw09_Price.f (a0 : Int) (a1 : Int) : Option (Int × Int) := some (a0, a1)
set_option maxHeartbeats 8000000 in
set_option maxRecDepth 100000 in
theorem forecourtlaw09_Price.calls (a0 : Int) (a1 : Int) (r1 : Int) (r2 : Int) (w : World) (h : forecourtlaw09_Price.f a0 a1 = some (r1, r2)) :
    Calls Try.prog 38 #[.int .i64 a0, .int .i64 a1] w fun e w' => e = .returned (.agg #[.int .i64 r1, .int .i64 r2]) ∧ Below w.heap.size w w' := by
  have hu54 := Try.underlying54
  have HB := Aside0.mk (Below.refl w.heap.size w)
  have H : (some (a0, a1)) = some (r1, r2) := h
  clear h
  simp only [Option.some.injEq, Prod.mk.injEq] at H
  obtain ⟨rfl, rfl⟩ := H
  go_enter Try.func38, Try.ntmps38
  go_wp2_with (first | ((with_reducible refine gate_dst (N := 4) rfl ?_); refine bx_ (cs := #[.int .i64 0, .int .i64 0]) (t := 54) (fun gb328 w3 BK328 GE328 HB => ?_); obtain ⟨hcz4_0, hcz4_1, hfz4_0, hfz4_1⟩ := cz2_ BK328.out))
  refine bodyPost_ret (results_cell_row rfl _ _ gb328 54 #[.int .i64 a0, .int .i64 a1] (0, 0) _ rfl (by (with_reducible repeat (first | refine blk_drewN ?_ _ | refine blk_drew ?_ | refine blk_alloc ?_ _)); refine blk_put (cs := #[.int .i64 a0, .int .i64 0]) ?_ 1 _ rfl; (with_reducible repeat (first | refine blk_drewN ?_ _ | refine blk_drew ?_ | refine blk_alloc ?_ _)); refine blk_put (cs := #[.int .i64 0, .int .i64 0]) ?_ 0 _ rfl; (with_reducible repeat (first | refine blk_drewN ?_ _ | refine blk_drew ?_ | refine blk_alloc ?_ _)); exact BK328.out) Try.underlying54 rfl (by kernel_rfl)) rfl ?_
  exact ⟨b4_, b1_⟩

end Go.Proofs.Ytcgdbjojjpoegaa.P

namespace Go.Proofs.Ytcgdbjojjpoegaa.P
open Go.RowKit Go.Proofs.YtcgdbjojjpoegaaW.PrintWords Go.Proofs.YtcgdbjojjpoegaaW.PrintLast Go.Proofs.YtcgdbjojjpoegaaW.PrintMore
attribute [local go_sem] max2_int min2_int max_two min_two max_three min_three max_four min_four   -- for this text's walks alone
set_option linter.unusedVariables false
set_option linter.unusedSimpArgs false

/-! ### forecourtlaw09_Sign: function 45 -/
def forecourtlaw09_Sign.f  : Option ((List (S54))) := (forecourtlaw09_Price.f 0 180).bind fun bt329 => ((forecourtlaw09_Price.f 60 170).bind fun bt331 => ((forecourtlaw09_Price.f 100 185).bind fun bt333 => (some (([(⟨bt329.1, bt329.2⟩ : S54), (⟨bt331.1, bt331.2⟩ : S54), (⟨bt333.1, bt333.2⟩ : S54)] : List (S54))))))
set_option maxHeartbeats 8000000 in
set_option maxRecDepth 100000 in
theorem forecourtlaw09_Sign.calls  (r : List (S54)) (w : World) (h : forecourtlaw09_Sign.f  = some r) :
    Calls Try.prog 45 #[] w fun e w' => ∃ v0_ : Value, e = .returned (v0_) ∧ Kd.R k54 54 w' w.heap.size (fun _ => True) v0_ r ∧ Below w.heap.size w w' := by
  have HB := Aside0.mk (Below.refl w.heap.size w)
  have H : ((forecourtlaw09_Price.f 0 180).bind fun bt329 => ((forecourtlaw09_Price.f 60 170).bind fun bt331 => ((forecourtlaw09_Price.f 100 185).bind fun bt333 => (some (([(⟨bt329.1, bt329.2⟩ : S54), (⟨bt331.1, bt331.2⟩ : S54), (⟨bt333.1, bt333.2⟩ : S54)] : List (S54))))))) = some r := h
  clear h
  replace H := Option.bind_eq_some_iff.mp H
  obtain ⟨⟨t329, t330⟩, A10, H⟩ := H
  replace H : ((forecourtlaw09_Price.f 60 170).bind fun bt331 => ((forecourtlaw09_Price.f 100 185).bind fun bt333 => (some (([(⟨t329, t330⟩ : S54), (⟨bt331.1, bt331.2⟩ : S54), (⟨bt333.1, bt333.2⟩ : S54)] : List (S54)))))) = some r := H
  have A1 := Aside0.mk A10
  clear A10
  replace H := Option.bind_eq_some_iff.mp H
  obtain ⟨⟨t331, t332⟩, A20, H⟩ := H
  replace H : ((forecourtlaw09_Price.f 100 185).bind fun bt333 => (some (([(⟨t329, t330⟩ : S54), (⟨t331, t332⟩ : S54), (⟨bt333.1, bt333.2⟩ : S54)] : List (S54))))) = some r := H
  have A2 := Aside0.mk A20
  clear A20
  replace H := Option.bind_eq_some_iff.mp H
  obtain ⟨⟨t333, t334⟩, A30, H⟩ := H
  replace H : (some (([(⟨t329, t330⟩ : S54), (⟨t331, t332⟩ : S54), (⟨t333, t334⟩ : S54)] : List (S54)))) = some r := H
  have A3 := Aside0.mk A30
  clear A30
  obtain ⟨y335, hy335⟩ : ∃ y_ : List (S54), y_ = (([(⟨t329, t330⟩ : S54), (⟨t331, t332⟩ : S54), (⟨t333, t334⟩ : S54)] : List (S54))) := ⟨_, rfl⟩
  replace H : (some y335) = some r := by first | (rw [hy335]; with_reducible exact H) | (have H2_ := (Option.bind_some _ _).symm.trans H; rw [hy335]; with_reducible exact H2_) | (have H2_ := (Option.bind_some _ _).symm.trans H; with_reducible exact H2_) | with_reducible exact H | (rw [hy335]; exact H) | exact H
  have Ny335 := Aside0.mk hy335
  clear hy335
  obtain rfl := Option.some.inj H
  go_enter Try.func45, Try.ntmps45
  go_wp2_with (first | ((with_reducible refine gate_callee (f := 38) rfl ?_); refine goesL_ (some 1) rfl rfl Try.func38 (by kernel_rfl) rfl #[.int .i64 0, .int .i64 180] rfl b3_ ?_; (with_reducible refine (forecourtlaw09_Price.calls 0 180 t329 t330 _ A1.out).mono ?_); rintro e w4 ⟨rfl, hb⟩; refine ⟨_, rfl, ?_⟩; replace HB := hB_ HB hb; (try clear hb)) | ((with_reducible refine gate_callee (f := 38) rfl ?_); refine goesL_ (some 2) rfl rfl Try.func38 (by kernel_rfl) rfl #[.int .i64 60, .int .i64 170] rfl b3_ ?_; (with_reducible refine (forecourtlaw09_Price.calls 60 170 t331 t332 _ A2.out).mono ?_); rintro e w5 ⟨rfl, hb⟩; refine ⟨_, rfl, ?_⟩; replace HB := hB_ HB hb; (try clear hb)) | ((with_reducible refine gate_callee (f := 38) rfl ?_); refine goesL_ (some 3) rfl rfl Try.func38 (by kernel_rfl) rfl #[.int .i64 100, .int .i64 185] rfl b3_ ?_; (with_reducible refine (forecourtlaw09_Price.calls 100 185 t333 t334 _ A3.out).mono ?_); rintro e w6 ⟨rfl, hb⟩; refine ⟨_, rfl, ?_⟩; replace HB := hB_ HB hb; (try clear hb)) | ((with_reducible refine gate_dst (N := 4) rfl ?_); refine Kd.R_lit k54 _ 54 ?hg (N := 4) ?hd (xs := ([(⟨t329, t330⟩ : S54), (⟨t331, t332⟩ : S54), (⟨t333, t334⟩ : S54)] : List (S54))) (inner := [.int .i64 t329, .int .i64 t330, .int .i64 t331, .int .i64 t332, .int .i64 t333, .int .i64 t334]) (ok := fun _ => True) (okp := fun _ => True) ?hr ?hp (fun _ hk => hk) trivial (Below.refl _ _) (Nat.le_refl _) (by simp) ?_; (case hd => rfl); (case hg => rfl); (case hr => first | (go_simp; done) | (go_simp; rfl)); (case hp => exact (Reps.c2 (show Kd.M k54 _ _ _ (⟨t329, t330⟩ : S54) [.int .i64 t329, .int .i64 t330] from (k54_mkM _ _ _ (⟨t329, t330⟩ : S54) )) (Reps.c2 (show Kd.M k54 _ _ _ (⟨t331, t332⟩ : S54) [.int .i64 t331, .int .i64 t332] from (k54_mkM _ _ _ (⟨t331, t332⟩ : S54) )) (Reps.c2 (show Kd.M k54 _ _ _ (⟨t333, t334⟩ : S54) [.int .i64 t333, .int .i64 t334] from (k54_mkM _ _ _ (⟨t333, t334⟩ : S54) )) (Reps.none _ _))))); intro v336 w7 ho8 hb hg_ hnew_; clear hg_ hnew_; (first | rw [← Ny335.out] at ho8 | (simp only [Int.reduceToNat] at ho8; rw [← Ny335.out] at ho8)); have HO337 := Aside0.mk (Kd.R_lower ho8 (below_size b6_)); replace HB := hB_ HB hb; clear hb ho8))
  go_ret
  exact ⟨_, b4_, (by (with_reducible repeat (first | apply Kd.R_alloc | apply Kd.R_drewN | apply Kd.R_drew)); exact HO337.out), b6_⟩

end Go.Proofs.Ytcgdbjojjpoegaa.P

namespace Go.Proofs.Ytcgdbjojjpoegaa.P
open Go.RowKit Go.Proofs.YtcgdbjojjpoegaaW.PrintWords Go.Proofs.YtcgdbjojjpoegaaW.PrintLast Go.Proofs.YtcgdbjojjpoegaaW.PrintMore
attribute [local go_sem] max2_int min2_int max_two min_two max_three min_three max_four min_four   -- for this text's walks alone
set_option linter.unusedVariables false
set_option linter.unusedSimpArgs false

/-! ### forecourtlaw09_Table: function 46 -/
def forecourtlaw09_Table.f  : Option (Int × (List (List Int))) := some (4, (([(([1, 2, 1] : List Int)), (([3, 1, 0] : List Int))] : List (List Int))))
set_option maxHeartbeats 8000000 in
set_option maxRecDepth 100000 in
theorem forecourtlaw09_Table.calls  (r1 : Int) (r2 : List (List Int)) (w : World) (h : forecourtlaw09_Table.f  = some (r1, r2)) :
    Calls Try.prog 46 #[] w fun e w' => ∃ v1_ : Value, e = .returned (.agg #[.int .i64 r1, v1_]) ∧ Kd.N (Kd.slice 2 (Kd.int .i64)) 48 w' w.heap.size (fun k_ => (w.heap.size ≤ k_)) v1_ r2 ∧ Below w.heap.size w w' := by
  have hu39 := Try.underlying39
  have HB := Aside0.mk (Below.refl w.heap.size w)
  have H : (some (4, (([(([1, 2, 1] : List Int)), (([3, 1, 0] : List Int))] : List (List Int))))) = some (r1, r2) := h
  clear h
  obtain ⟨y339, hy339⟩ : ∃ y_ : List Int, y_ = (([1, 2, 1] : List Int)) := ⟨_, rfl⟩
  replace H : (some (4, (([y339, (([3, 1, 0] : List Int))] : List (List Int))))) = some (r1, r2) := by first | (rw [hy339]; with_reducible exact H) | (have H2_ := (Option.bind_some _ _).symm.trans H; rw [hy339]; with_reducible exact H2_) | (have H2_ := (Option.bind_some _ _).symm.trans H; with_reducible exact H2_) | with_reducible exact H | (rw [hy339]; exact H) | exact H
  have Ny339 := Aside0.mk hy339
  clear hy339
  obtain ⟨y342, hy342⟩ : ∃ y_ : List Int, y_ = (([3, 1, 0] : List Int)) := ⟨_, rfl⟩
  replace H : (some (4, (([y339, y342] : List (List Int))))) = some (r1, r2) := by first | (rw [hy342]; with_reducible exact H) | (have H2_ := (Option.bind_some _ _).symm.trans H; rw [hy342]; with_reducible exact H2_) | (have H2_ := (Option.bind_some _ _).symm.trans H; with_reducible exact H2_) | with_reducible exact H | (rw [hy342]; exact H) | exact H
  have Ny342 := Aside0.mk hy342
  clear hy342
  obtain ⟨y345, hy345⟩ : ∃ y_ : List (List Int), y_ = (([y339, y342] : List (List Int))) := ⟨_, rfl⟩
  replace H : (some (4, y345)) = some (r1, r2) := by first | (rw [hy345]; with_reducible exact H) | (have H2_ := (Option.bind_some _ _).symm.trans H; rw [hy345]; with_reducible exact H2_) | (have H2_ := (Option.bind_some _ _).symm.trans H; with_reducible exact H2_) | with_reducible exact H | (rw [hy345]; exact H) | exact H
  have Ny345 := Aside0.mk hy345
  clear hy345
  simp only [Option.some.injEq, Prod.mk.injEq] at H
  obtain ⟨rfl, rfl⟩ := H
  go_enter Try.func46, Try.ntmps46
  go_wp2_with (first | ((with_reducible refine gate_dst (N := 0) rfl ?_); refine bx_ (cs := #[.int .i64 0, .slice none 0 0]) (t := 39) (fun gb338 w1 BK338 GE338 HB => ?_)) | ((with_reducible refine gate_dst (N := 1) rfl ?_); refine Kd.R_lit (Kd.int .i64) _ 2 ?hg (N := 1) ?hd (xs := ([1, 2, 1] : List Int)) (inner := [.int .i64 1, .int .i64 2, .int .i64 1]) (ok := fun _ => True) (okp := fun _ => True) ?hr ?hp (fun _ hk => hk) trivial (Below.refl _ _) (Nat.le_refl _) (by simp) ?_; (case hd => rfl); (case hg => rfl); (case hr => first | (go_simp; done) | (go_simp; rfl)); (case hp => exact (Reps.one (show Kd.M (Kd.int .i64) _ _ _ 1 [.int .i64 1] from rfl) (Reps.one (show Kd.M (Kd.int .i64) _ _ _ 2 [.int .i64 2] from rfl) (Reps.one (show Kd.M (Kd.int .i64) _ _ _ 1 [.int .i64 1] from rfl) (Reps.none _ _))))); intro v340 w2 ho3 hb hg_ hnew_; clear hg_ hnew_; (first | rw [← Ny339.out] at ho3 | (simp only [Int.reduceToNat] at ho3; rw [← Ny339.out] at ho3)); have HO341 := Aside0.mk (Kd.R_lower (Kd.R_newM (M := fun k_ => (w.heap.size ≤ k_)) ho3 (below_size b1_) (fun k_ h_ => h_)) (below_size b1_)); replace BK338 := bk_ BK338 hb; replace HB := hB_ HB hb; clear hb ho3) | ((with_reducible refine gate_dst (N := 2) rfl ?_); refine Kd.R_lit (Kd.int .i64) _ 2 ?hg (N := 2) ?hd (xs := ([3, 1, 0] : List Int)) (inner := [.int .i64 3, .int .i64 1, .int .i64 0]) (ok := fun _ => True) (okp := fun _ => True) ?hr ?hp (fun _ hk => hk) trivial (Below.refl _ _) (Nat.le_refl _) (by simp) ?_; (case hd => rfl); (case hg => rfl); (case hr => first | (go_simp; done) | (go_simp; rfl)); (case hp => exact (Reps.one (show Kd.M (Kd.int .i64) _ _ _ 3 [.int .i64 3] from rfl) (Reps.one (show Kd.M (Kd.int .i64) _ _ _ 1 [.int .i64 1] from rfl) (Reps.one (show Kd.M (Kd.int .i64) _ _ _ 0 [.int .i64 0] from rfl) (Reps.none _ _))))); intro v343 w4 ho5 hb hg_ hnew_; clear hg_ hnew_; (first | rw [← Ny342.out] at ho5 | (simp only [Int.reduceToNat] at ho5; rw [← Ny342.out] at ho5)); have HO344 := Aside0.mk (Kd.R_lower (Kd.R_new' (Kd.R_newM (M := fun k_ => (w.heap.size ≤ k_)) ho5 (below_size b1_) (fun k_ h_ => h_)) (Kd.R_lt (by (with_reducible repeat (first | apply Kd.R_alloc | apply Kd.R_drewN | apply Kd.R_drew)); exact HO341.out))) (below_size b1_)); replace HO341 := Aside0.mk (Kd.R_elder' (by (with_reducible repeat (first | apply Kd.R_alloc | apply Kd.R_drewN | apply Kd.R_drew)); exact HO341.out) (Kd.R_base ho5) hb); replace BK338 := bk_ BK338 hb; replace HB := hB_ HB hb; clear hb ho5; obtain ⟨Ao6, co6, eo6⟩ := Kd.R_slice HO341.out; subst eo6; obtain ⟨Ao7, co7, eo7⟩ := Kd.R_slice HO344.out; subst eo7) | ((with_reducible refine gate_dst (N := 3) rfl ?_); refine Kd.N_lit (Kd.slice 2 (Kd.int .i64)) _ 48 ?hg (N' := 3) ?hd (xs := ([y339, y342] : List (List Int))) (inner := [.slice Ao6 y339.length co6, .slice Ao7 y342.length co7]) (ok := (fun k_ => (w.heap.size ≤ k_) ∧ k_ ≠ gb338)) (okp := (fun k_ => (w.heap.size ≤ k_) ∧ k_ ≠ gb338)) ?hr ?hp (fun _ hk => hk) ((show ∀ k_, w4.heap.size ≤ k_ → (fun k_ => (w.heap.size ≤ k_) ∧ k_ ≠ gb338) k_ from fun k_ hk => ⟨(Nat.le_trans (below_size b1_) hk), Kd.freshB (g := gb338) (o := .cells #[.int .i64 0, .slice none 0 0] 39 (0, 0)) b19_ k_ hk⟩) _ (Nat.le_refl _)) (Below.refl _ _) (Nat.le_refl _) (by simp) ?_; (case hd => rfl); (case hg => rfl); (case hr => first | (go_simp; done) | (go_simp; rfl)); (case hp => exact (Reps.one (show Kd.FK (Kd.slice 2 (Kd.int .i64)) _ _ y339 [.slice Ao6 y339.length co6] from (Kd.FK_slice_mk (Kd.R_reads' (Kd.R_mono (ok' := (fun k_ => (w.heap.size ≤ k_) ∧ k_ ≠ gb338)) (Kd.R_types (HO341.out) BK338.out (by decide)) (fun k_ hk => ⟨hk.1.1.1, hk.2⟩))).2.1 (Kd.R_F (Kd.R_mono (ok' := (fun k_ => (w.heap.size ≤ k_) ∧ k_ ≠ gb338)) (Kd.R_types (HO341.out) BK338.out (by decide)) (fun k_ hk => ⟨hk.1.1.1, hk.2⟩))))) (Reps.one (show Kd.FK (Kd.slice 2 (Kd.int .i64)) _ _ y342 [.slice Ao7 y342.length co7] from (Kd.FK_slice_mk (Kd.R_reads' (Kd.R_mono (ok' := (fun k_ => (w.heap.size ≤ k_) ∧ k_ ≠ gb338)) (Kd.R_types (HO344.out) BK338.out (by decide)) (fun k_ hk => ⟨hk.1.1.1, hk.2⟩))).2.1 (Kd.R_F (Kd.R_mono (ok' := (fun k_ => (w.heap.size ≤ k_) ∧ k_ ≠ gb338)) (Kd.R_types (HO344.out) BK338.out (by decide)) (fun k_ hk => ⟨hk.1.1.1, hk.2⟩))))) (Reps.none _ _)))); intro v346 w8 ho9 hb hg_ hnew_; clear hg_ hnew_; (first | rw [← Ny345.out] at ho9 | (simp only [Int.reduceToNat] at ho9; rw [← Ny345.out] at ho9)); have HO347 := Aside0.mk (Kd.N_lower ho9 (below_size b1_)); replace BK338 := bk_ BK338 hb; replace HB := hB_ HB hb; clear HO341 HO344; clear hb ho9; obtain ⟨Ao10, co10, eo10⟩ := Kd.N_slice HO347.out; subst eo10; obtain ⟨hcz11_0, hcz11_1, hfz11_0, hfz11_1⟩ := cz2_ BK338.out))
  refine bodyPost_ret (results_cell_row rfl _ _ gb338 39 #[.int .i64 4, .slice Ao10 y345.length co10] (0, 0) _ rfl (by (with_reducible repeat (first | refine blk_drewN ?_ _ | refine blk_drew ?_ | refine blk_alloc ?_ _)); refine blk_put (cs := #[.int .i64 4, .slice none 0 0]) ?_ 1 _ rfl; (with_reducible repeat (first | refine blk_drewN ?_ _ | refine blk_drew ?_ | refine blk_alloc ?_ _)); refine blk_put (cs := #[.int .i64 0, .slice none 0 0]) ?_ 0 _ rfl; (with_reducible repeat (first | refine blk_drewN ?_ _ | refine blk_drew ?_ | refine blk_alloc ?_ _)); exact BK338.out) Try.underlying39 rfl (by kernel_rfl)) rfl ?_
  exact ⟨_, b4_, (by (with_reducible repeat (first | apply Kd.N_alloc | apply Kd.N_drewN | apply Kd.N_drew)); exact Kd.N_mono (Kd.N_far (p := ⟨gb338, 1, none⟩) (Kd.N_far (p := ⟨gb338, 0, none⟩) (Kd.N_mono HO347.out (fun k_ hk => (⟨hk, hk.2⟩ : _ ∧ k_ ≠ gb338))) (fun _ hk => hk.2) (.int .i64 4)) (fun _ hk => hk.2) (.slice Ao10 y345.length co10)) (fun _ hk => hk.1.1)), b1_⟩

end Go.Proofs.Ytcgdbjojjpoegaa.P

