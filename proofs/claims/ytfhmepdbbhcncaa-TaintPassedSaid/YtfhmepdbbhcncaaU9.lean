import Derived.Test.YtfhmepdbbhcncaaT17
import Derived.Test.YtfhmepdbbhcncaaT2
import Derived.Test.YtfhmepdbbhcncaaXW
import Derived.Test.YtfhmepdbbhcncaaPf19
import Derived.Test.YtfhmepdbbhcncaaPf37
import Derived.Test.YtfhmepdbbhcncaaPf38
import Derived.Test.YtfhmepdbbhcncaaPf41
namespace Go.Proofs.Ytfhmepdbbhcncaa.P
open Go.RowKit Go.Shelf Go.Proofs.YtfhmepdbbhcncaaW.PrintWords Go.Proofs.YtfhmepdbbhcncaaW.PrintLast Go.Proofs.YtfhmepdbbhcncaaW.PrintMore Go.Proofs.YtfhmepdbbhcncaaM Go.Proofs.YtfhmepdbbhcncaaR
set_option linter.unusedVariables false
set_option linter.unusedSimpArgs false
set_option maxRecDepth 100000

/-- A law's yard and start in their boxes. -/
structure PY (w W : World) (n sv st : Int) (A : Option Addr) (c : Nat) (l : List S58) : Prop where
  y : Blk W w.heap.size 24 #[.int .i64 n, .slice A l.length c]
  s : Blk W (w.heap.size + 1) 26 #[.int .i64 sv, .int .i64 st]
  C : Kd.C k58 W A l.length l
  hc : l.length ≤ c
  g : Below w.heap.size w W
section
variable {w W W' : World} {n sv st : Int} {A : Option Addr} {c : Nat} {l : List S58}
theorem PY.below (h : PY w W n sv st A c l) (hb : Below W.heap.size W W') : PY w W' n sv st A c l :=
  ⟨h.y.below hb h.y.lt, h.s.below hb h.s.lt, Kd.C_below h.C hb, h.hc, below_then h.g h.g.size hb⟩
theorem PY.drew (h : PY w W n sv st A c l) (hd : Drawn0 W W') : PY w W' n sv st A c l := h.below (drawn_below hd)
theorem PY.init (w : World) (n sv st : Int) (A : Option Addr) (c : Nat) (l : List S58) (hC : Kd.C k58 w A l.length l) (hc : l.length ≤ c) : PY w ((w.alloc (.cells #[.int .i64 n, .slice A l.length c] 24)).alloc (.cells #[.int .i64 sv, .int .i64 st] 26)) n sv st A c l := by
  have b0 := (Blk.new w #[.int .i64 n, .slice A l.length c] 24).alloc (.cells #[.int .i64 sv, .int .i64 st] 26)
  have b1 := Blk.new (w.alloc (.cells #[.int .i64 n, .slice A l.length c] 24)) #[.int .i64 sv, .int .i64 st] 26
  simp only [World.size_alloc] at b1
  exact ⟨b0, b1, Kd.C_below hC (boxes2 _ _ _), hc, boxes2 _ _ _⟩
end
/-- Between the rounds over the two trails. -/
structure PLs (w W : World) (n sv st : Int) (A : Option Addr) (c : Nat) (l : List S58) (bT : Nat) (At : Option Addr) (ct : Nat) (t : List Int) (Ag : Option Addr) (cg : Nat) (gl : List Int) (Ap : Option Addr) (cp : Nat) (p : List Int) : Prop where
  P : PY w W n sv st A c l
  T : Blk W bT 27 #[.slice At t.length ct, .slice Ag gl.length cg]
  t : Rd (Kd.int .i64) W At t.length ct t
  g : Rd (Kd.int .i64) W Ag gl.length cg gl
  p : Rd (Kd.int .i64) W Ap p.length cp p
theorem PLs.below {w W W' : World} {n sv st : Int} {A : Option Addr} {c : Nat} {l : List S58} {bT : Nat} {At : Option Addr} {ct : Nat} {t : List Int} {Ag : Option Addr} {cg : Nat} {gl : List Int} {Ap : Option Addr} {cp : Nat} {p : List Int} (h : PLs w W n sv st A c l bT At ct t Ag cg gl Ap cp p) (hb : Below W.heap.size W W') : PLs w W' n sv st A c l bT At ct t Ag cg gl Ap cp p :=
  ⟨h.P.below hb, h.T.below hb h.T.lt, h.t.below hb, h.g.below hb, h.p.below hb⟩
theorem PLs.tr {w W : World} {n sv st : Int} {A : Option Addr} {c : Nat} {l : List S58} {bT : Nat} {At : Option Addr} {ct : Nat} {t : List Int} {Ag : Option Addr} {cg : Nat} {gl : List Int} {Ap : Option Addr} {cp : Nat} {p : List Int} (h : PLs w W n sv st A c l bT At ct t Ag cg gl Ap cp p) (i : Nat) (hi : i < 2) :
    ∃ (AT : Option Addr) (cT : Nat) (T : List Int), W.cell? ⟨bT, i, none⟩ = some (.slice AT T.length cT) ∧ Rd (Kd.int .i64) W AT T.length cT T := by
  match i with
  | 0 => exact ⟨At, ct, t, h.T.cell 0, h.t⟩
  | 1 => exact ⟨Ag, cg, gl, h.T.cell 1, h.g⟩
  | i + 2 => omega
def inB (u : List Int) (v : Int) : Bool := u.any fun x => x == v
theorem inB_iff (u : List Int) (v : Int) : inB u v = true ↔ v ∈ u := by
  unfold inB
  rw [List.any_eq_true]
  constructor
  · rintro ⟨x, hx, e⟩
    rw [beq_iff_eq] at e
    subst e
    exact hx
  · intro h
    exact ⟨v, h, by simp⟩
theorem inB_succ (u : List Int) (j : Nat) (hj : j < u.length) (v : Int) : inB (u.take (j + 1)) v = (inB (u.take j) v || (u[j] == v)) := by
  unfold inB
  rw [List.take_succ_eq_append_getElem hj, List.any_append]
  simp
/-- The vessels that are marked. -/
structure MarkO (Wb W : World) (bO cap N : Nat) (l : List S58) (sv : Int) (T : List Int) (k : Nat) (on : List Int) : Prop where
  len : on.length = N
  row : RowC W bO 3 cap on
  own : gc on sv = 1
  mark : ∀ j (h : j < T.length), j < k → gc on (rd_T58 l T[j]).f1 = 1
  g : Below Wb.heap.size Wb W
theorem MarkO.step {Wb W : World} {bO cap N : Nat} {l : List S58} {sv : Int} {T : List Int} {k : Nat} {on : List Int} (h : MarkO Wb W bO cap N l sv T k on) (hb : Wb.heap.size ≤ bO) (hk : k < T.length) (hsv : 0 ≤ sv ∧ sv.toNat < N) (hf : ∀ j (h : j < T.length), 0 ≤ (rd_T58 l T[j]).f1 ∧ (rd_T58 l T[j]).f1.toNat < N) {W' : World} (hd : Below W.heap.size W W') :
    MarkO Wb (W'.setCell ⟨bO, (rd_T58 l T[k]).f1.toNat, none⟩ (.int .i64 1)) bO cap N l sv T (k + 1) (on.set (rd_T58 l T[k]).f1.toNat 1) := by
  have hl := h.len
  have hfk := hf k hk
  have hset : ∀ x : Int, 0 ≤ x → x.toNat < N → gc on x = 1 ∨ x = (rd_T58 l T[k]).f1 → gc (on.set (rd_T58 l T[k]).f1.toNat 1) x = 1 := fun x h0 h1 hx => by
    rw [gc_set on _ x 1 hfk.1 h0 (by omega)]
    by_cases e : x = (rd_T58 l T[k]).f1
    · rw [if_pos e]
    · rw [if_neg e]
      rcases hx with hx | hx
      · exact hx
      · exact absurd hx e
  refine ⟨by simp [hl], (h.row.below hd h.row.lt).set _ (by omega) 1, hset sv hsv.1 hsv.2 (.inl h.own), fun j hj hjk => ?_, below_set (below_then h.g h.g.size hd) hb⟩
  have hfj := hf j hj
  by_cases e : j = k
  · subst e
    exact hset _ hfj.1 hfj.2 (.inr rfl)
  · exact hset _ hfj.1 hfj.2 (.inl (h.mark j hj (by omega)))
theorem MarkO.below {Wb W W' : World} {bO cap N : Nat} {l : List S58} {sv : Int} {T : List Int} {k : Nat} {on : List Int} (h : MarkO Wb W bO cap N l sv T k on) (hb : Below W.heap.size W W') : MarkO Wb W' bO cap N l sv T k on :=
  ⟨h.len, h.row.below hb h.row.lt, h.own, h.mark, below_then h.g h.g.size hb⟩
set_option maxHeartbeats 4000000 in
set_option maxRecDepth 100000 in
theorem passedW (n : Int) (A : Option Addr) (c : Nat) (l : List S58) (sv st a2 a3 : Int) (Ag : Option Addr) (cg : Nat) (gl : List Int) (w : World) (hr : Kd.C k58 w A l.length l) (hc : l.length ≤ c) (hg : Kd.C (Kd.int .i64) w Ag gl.length gl) (hcg : gl.length ≤ cg) (h2 : 0 ≤ a2 ∧ a2 ≤ 255) (h3 : 0 ≤ a3 ∧ a3 ≤ 255) :
    Calls Try.prog 9 #[.agg #[.int .i64 n, .slice A l.length c], .agg #[.int .i64 sv, .int .i64 st], .int .u8 a2, .int .u8 a3, .slice Ag gl.length cg] w fun e w' => e = .returned (.bool true) ∧ Below w.heap.size w w' := by
  have HP := Lib.hid (PY.init w n sv st A c l hr hc)
  have HG := Lib.hid (show Rd (Kd.int .i64) ((w.alloc (.cells #[.int .i64 n, .slice A l.length c] 24)).alloc (.cells #[.int .i64 sv, .int .i64 st] 26)) Ag gl.length cg gl from ⟨rfl, hcg, Kd.C_below hg (boxes2 _ _ _)⟩)
  have hfe := fine_eq n l sv st 2000 (by omega)
  obtain ⟨F, hF⟩ : ∃ F, (decide ((l.length : Int) ≤ 50) && decide (openE n l sv st [] = 0)) = F := ⟨_, rfl⟩
  rw [hF] at hfe
  have HFE := Lib.hid hfe
  clear hfe hr hg
  have hlen0 : (gl.length : Int) ≤ 9223372036854775807 := by have := HG.out.C.2.1; omega
  go_enter Try.func9, Try.ntmps9
  go_upto_region 1 with (fail)
  generalize (w.alloc (.cells #[.int .i64 n, .slice A l.length c] 24)).alloc (.cells #[.int .i64 sv, .int .i64 st] 26) = W0 at *
  have y0 : W0.cell? ⟨w.heap.size, 0, none⟩ = some (.int .i64 n) := HP.out.y.cell 0
  have y1 : W0.cell? ⟨w.heap.size, 1, none⟩ = some (.slice A l.length c) := HP.out.y.cell 1
  have s0 : W0.cell? ⟨w.heap.size + 1, 0, none⟩ = some (.int .i64 sv) := HP.out.s.cell 0
  have s1 : W0.cell? ⟨w.heap.size + 1, 1, none⟩ = some (.int .i64 st) := HP.out.s.cell 1
  cases F with
  | false =>
    go_wp2_with (first
      | (go_at_call 37; refine (forecourtlaw05_fine.calls 2000 n A c l sv st false _ HP.out.C HP.out.hc HFE.out).mono ?_; rintro e W1 ⟨rfl, hb⟩; have HB := Lib.hid hb; clear hb)
      | (go_at_call 15; refine (works_calls _).mono ?_; rintro e W2 ⟨rfl, hb⟩; have HB2 := Lib.hid hb; clear hb))
    go_ret
    exact ⟨rfl, (HP.out.below HB.out).g.trans (HB2.out.mono (Nat.le_trans HP.out.g.size HB.out.size))⟩
  | true =>
    by_cases hgl : 40 < (gl.length : Int)
    · have hq : decide (40 < (gl.length : Int)) = true := decide_eq_true hgl
      go_wp2_with (first
        | (go_at_call 37; refine (forecourtlaw05_fine.calls 2000 n A c l sv st true _ HP.out.C HP.out.hc HFE.out).mono ?_; rintro e W1 ⟨rfl, hb⟩; have HB := Lib.hid hb; clear hb)
        | (go_at_call 15; refine (works_calls _).mono ?_; rintro e W2 ⟨rfl, hb⟩; have HB2 := Lib.hid hb; clear hb))
      go_ret
      exact ⟨rfl, (HP.out.below HB.out).g.trans (HB2.out.mono (Nat.le_trans HP.out.g.size HB.out.size))⟩
    · have hq : decide (40 < (gl.length : Int)) = false := decide_eq_false hgl
      have hop : openE n l sv st [] = 0 := by
        rw [Bool.and_eq_true] at hF
        exact of_decide_eq_true hF.2
      obtain ⟨hy, hsv, hst, _⟩ := open_parts hop
      have hn1 := hy.n1
      have hn2 := hy.n2
      have hln := hy.len
      have HY := Lib.hid hy
      have HOP := Lib.hid hop
      clear hy hop hF
      have hnz : (n == 0) = false := by simp; omega
      go_upto_region 3 with (go_at_call 37; refine (forecourtlaw05_fine.calls 2000 n A c l sv st true _ HP.out.C HP.out.hc HFE.out).mono ?_; rintro e W1 ⟨rfl, hb⟩; have HB := Lib.hid hb; clear hb)
      replace HP := Lib.hid (HP.out.below HB.out)
      replace HG := Lib.hid (HG.out.below HB.out)
      clear y0 y1 s0 s1 HB
      have y0 : W1.cell? ⟨w.heap.size, 0, none⟩ = some (.int .i64 n) := HP.out.y.cell 0
      go_upto_region 4 with (go_quiet (fail))
      have HP2 := Lib.hid (HP.out.drew ⟨nq, rfl⟩)
      have HG2 := Lib.hid (HG.out.below (drawn_below (W' := W1.drewN nq) ⟨nq, rfl⟩))
      have hv0 : 0 ≤ a2 % n := Int.emod_nonneg _ (by omega)
      have hv1 : a2 % n < n := Int.emod_lt_of_pos _ (by omega)
      have ho0 : 0 ≤ a3 % n := Int.emod_nonneg _ (by omega)
      have ho1 : a3 % n < n := Int.emod_lt_of_pos _ (by omega)
      clear HP HG y0
      generalize W1.drewN nq = W2 at *
      generalize a2 % n = v at *
      generalize a3 % n = o at *
      have hov := open_one HOP.out ⟨hv0, hv1⟩
      obtain ⟨t, htr, hps, hnil, _⟩ := trail_works n l sv st v
      have hcase : trailE n l sv st v = 5 ∨ trailE n l sv st v = 0 := by
        unfold trailE
        rw [if_neg (by omega)]
        split <;> simp
      rcases hcase with hE | hE
      · rw [hE] at htr hps
        rw [if_neg (by decide)] at hps
        have htn := hnil (by omega)
        subst htn
        have HT := Lib.hid htr
        have HS := Lib.hid hps
        clear htr hps hnil hov hE
        have y0 : W2.cell? ⟨w.heap.size, 0, none⟩ = some (.int .i64 n) := HP2.out.y.cell 0
        have y1 : W2.cell? ⟨w.heap.size, 1, none⟩ = some (.slice A l.length c) := HP2.out.y.cell 1
        have s0 : W2.cell? ⟨w.heap.size + 1, 0, none⟩ = some (.int .i64 sv) := HP2.out.s.cell 0
        have s1 : W2.cell? ⟨w.heap.size + 1, 1, none⟩ = some (.int .i64 st) := HP2.out.s.cell 1
        go_upto_region 5 with (go_at_call 30; refine (passed_calls n A c l sv st v [] 5 _ HP2.out.C HS.out).mono ?_; rintro e W3 ⟨vp, rfl, ho, hb⟩; obtain ⟨Ap, cp, hv⟩ := Kd.R_slice ho; subst hv; have HB := Lib.hid hb; clear ho hb)
        have HP3 := Lib.hid (HP2.out.below HB.out)
        clear y0 y1 s0 s1 HP2 HG2 HB
        have y0 : W3.cell? ⟨w.heap.size, 0, none⟩ = some (.int .i64 n) := HP3.out.y.cell 0
        have y1 : W3.cell? ⟨w.heap.size, 1, none⟩ = some (.slice A l.length c) := HP3.out.y.cell 1
        have s0 : W3.cell? ⟨w.heap.size + 1, 0, none⟩ = some (.int .i64 sv) := HP3.out.s.cell 0
        have s1 : W3.cell? ⟨w.heap.size + 1, 1, none⟩ = some (.int .i64 st) := HP3.out.s.cell 1
        go_wp2_with (first
          | (go_at_call 32; refine (trail_calls n A c l sv st v [] 5 _ HP3.out.C HT.out).mono ?_; rintro e W4 ⟨vt, rfl, ho, hb⟩; obtain ⟨At, ct, hv⟩ := Kd.R_slice ho; subst hv; have HB4 := Lib.hid hb; clear ho hb)
          | (go_at_call 15; refine (works_calls _).mono ?_; rintro e W5 ⟨rfl, hb⟩; have HB5 := Lib.hid hb; clear hb))
        go_ret
        exact ⟨rfl, (HP3.out.below HB4.out).g.trans (HB5.out.mono (Nat.le_trans HP3.out.g.size HB4.out.size))⟩
      · obtain ⟨t', htr', hps', hF⟩ := passF_ex hov hE
        have HT := Lib.hid htr'
        have HS := Lib.hid hps'
        have HF := Lib.hid hF
        clear htr hps hnil hov hE htr' hps' hF
        generalize passR n l sv st v n.toNat = p at *
        have y0 : W2.cell? ⟨w.heap.size, 0, none⟩ = some (.int .i64 n) := HP2.out.y.cell 0
        have y1 : W2.cell? ⟨w.heap.size, 1, none⟩ = some (.slice A l.length c) := HP2.out.y.cell 1
        have s0 : W2.cell? ⟨w.heap.size + 1, 0, none⟩ = some (.int .i64 sv) := HP2.out.s.cell 0
        have s1 : W2.cell? ⟨w.heap.size + 1, 1, none⟩ = some (.int .i64 st) := HP2.out.s.cell 1
        go_upto_region 5 with (go_at_call 30; refine (passed_calls n A c l sv st v p 0 _ HP2.out.C HS.out).mono ?_; rintro e W3 ⟨vp, rfl, ho, hb⟩; obtain ⟨Ap, cp, hv⟩ := Kd.R_slice ho; subst hv; have HPP := Lib.hid (Rd.of ho); have HB := Lib.hid hb; clear ho hb)
        have HP3 := Lib.hid (HP2.out.below HB.out)
        have HG3 := Lib.hid (HG2.out.below HB.out)
        clear y0 y1 s0 s1 HP2 HG2 HB
        have y0 : W3.cell? ⟨w.heap.size, 0, none⟩ = some (.int .i64 n) := HP3.out.y.cell 0
        have y1 : W3.cell? ⟨w.heap.size, 1, none⟩ = some (.slice A l.length c) := HP3.out.y.cell 1
        have s0 : W3.cell? ⟨w.heap.size + 1, 0, none⟩ = some (.int .i64 sv) := HP3.out.s.cell 0
        have s1 : W3.cell? ⟨w.heap.size + 1, 1, none⟩ = some (.int .i64 st) := HP3.out.s.cell 1
        go_upto_region 10 with (go_at_call 32; refine (trail_calls n A c l sv st v t' 0 _ HP3.out.C HT.out).mono ?_; rintro e W4 ⟨vt, rfl, ho, hb⟩; obtain ⟨At, ct, hv⟩ := Kd.R_slice ho; subst hv; have HTT := Lib.hid (Rd.of ho); have HB := Lib.hid hb; clear ho hb)
        have HP4 := Lib.hid (HP3.out.below HB.out)
        have HG4 := Lib.hid (HG3.out.below HB.out)
        replace HPP := Lib.hid (HPP.out.below HB.out)
        clear y0 y1 s0 s1 HP3 HG3 HB
        have HRI := Lib.hid (rising_true p n (by have := HF.out.len; omega) HF.out.mem (by omega) HF.out.inc 2000 (by omega))
        have HCK := Lib.hid (show forecourtref05_CheckTrail.f 3000 n l sv st v t' false = some 0 from by rw [refCT n l sv st v t' false (by omega) 3000 (by omega), HF.out.tr])
        have y0 : W4.cell? ⟨w.heap.size, 0, none⟩ = some (.int .i64 n) := HP4.out.y.cell 0
        have y1 : W4.cell? ⟨w.heap.size, 1, none⟩ = some (.slice A l.length c) := HP4.out.y.cell 1
        have s0 : W4.cell? ⟨w.heap.size + 1, 0, none⟩ = some (.int .i64 sv) := HP4.out.s.cell 0
        have s1 : W4.cell? ⟨w.heap.size + 1, 1, none⟩ = some (.int .i64 st) := HP4.out.s.cell 1
        go_upto_region 12 with (first
          | (go_at_call 38; refine (forecourtref05_Rising.calls 2000 Ap cp p n true _ HPP.out.C HPP.out.hc HRI.out).mono ?_; rintro e W5 ⟨rfl, hd⟩; have HB := Lib.hid (drawn_below hd); clear hd; have y0 : W5.cell? ⟨w.heap.size, 0, none⟩ = some (.int .i64 n) := (HP4.out.below HB.out).y.cell 0; have y1 : W5.cell? ⟨w.heap.size, 1, none⟩ = some (.slice A l.length c) := (HP4.out.below HB.out).y.cell 1; have s0 : W5.cell? ⟨w.heap.size + 1, 0, none⟩ = some (.int .i64 sv) := (HP4.out.below HB.out).s.cell 0; have s1 : W5.cell? ⟨w.heap.size + 1, 1, none⟩ = some (.int .i64 st) := (HP4.out.below HB.out).s.cell 1)
          | (go_at_call 19; refine (forecourtref05_CheckTrail.calls 3000 n A c l sv st v At ct t' false 0 _ (HP4.out.below HB.out).C HP4.out.hc (HTT.out.below HB.out).C HTT.out.hc HCK.out).mono ?_; rintro e W6 ⟨rfl, hb⟩; have HB6 := Lib.hid hb; clear hb))
        have HP6 := Lib.hid ((HP4.out.below HB.out).below HB6.out)
        have HG6 := Lib.hid ((HG4.out.below HB.out).below HB6.out)
        have HT6 := Lib.hid ((HTT.out.below HB.out).below HB6.out)
        have HS6 := Lib.hid ((HPP.out.below HB.out).below HB6.out)
        clear y0 y1 s0 s1 HP4 HG4 HTT HPP HB HB6 HRI HCK
        go_upto_region 13 with (fail)
        have HL := Lib.hid (show PLs w (W6.alloc (.cells #[.slice At t'.length ct, .slice Ag gl.length cg] 27)) n sv st A c l W6.heap.size At ct t' Ag cg gl Ap cp p from
          ⟨HP6.out.below (below_alloc (Below.refl _ _) _), Blk.new W6 _ 27, HT6.out.below (below_alloc (Below.refl _ _) _), HG6.out.below (below_alloc (Below.refl _ _) _), HS6.out.below (below_alloc (Below.refl _ _) _)⟩)
        clear HP6 HG6 HT6 HS6
        generalize W6.alloc (.cells #[.slice At t'.length ct, .slice Ag gl.length cg] 27) = W7 at *
        generalize W6.heap.size = bT at *
        go_wp2
        go_loopg [18, 19, 20, 21] 2 (fun kq v18 v19 v20 v21 w' => ∃ (i : Nat), v18 = .int .i64 i ∧ Aside0 (i + kq = 2) ∧ Aside0 (PLs w w' n sv st A c l bT At ct t' Ag cg gl Ap cp p))
        case atStart => exact ⟨0, rfl, ⟨rfl⟩, ⟨HL.out⟩⟩
        case round =>
          obtain ⟨i, rfl, HN, HPL⟩ := hrel
          cases gk with
          | succ k1 =>
            have hlt : i < 2 := by have := HN.out; omega
            have hl4 : decide ((i : Int) < 2) = true := decide_eq_true (by omega)
            obtain ⟨AT, cT, T, hcT, hRT⟩ := HPL.out.tr i hlt
            have hTm := hRT.C.2.1
            have HRT := Lib.hid hRT
            obtain ⟨cr, hcr⟩ : ∃ cr, checkTrailF n l sv st v T false = cr := ⟨_, rfl⟩
            have HCR := Lib.hid hcr
            have HCK := Lib.hid (fun (d : Nat) (os : Array Obj) => forecourtref05_CheckTrail.calls 3000 n A c l sv st v AT cT T false cr (Go.«Sort».grow (redrawn wr d) os) (HPL.out.below (below_regrown wr d os)).P.C HPL.out.P.hc (HRT.out.below (below_regrown wr d os)).C HRT.out.hc (by rw [refCT n l sv st v T false (by omega) 3000 (by omega), hcr]))
            have gy0 := cell_regrown (show wr.cell? ⟨w.heap.size, 0, none⟩ = some (.int .i64 n) from HPL.out.P.y.cell 0)
            have gy1 := cell_regrown (show wr.cell? ⟨w.heap.size, 1, none⟩ = some (.slice A l.length c) from HPL.out.P.y.cell 1)
            have gs0 := cell_regrown (show wr.cell? ⟨w.heap.size + 1, 0, none⟩ = some (.int .i64 sv) from HPL.out.P.s.cell 0)
            have gs1 := cell_regrown (show wr.cell? ⟨w.heap.size + 1, 1, none⟩ = some (.int .i64 st) from HPL.out.P.s.cell 1)
            have gT := cell_regrown hcT
            clear hRT hcr hcT HL
            go_upto_region 16 with (fail)
            by_cases hz : cr = 0
            · have hq : (cr != 0) = false := by simp [hz]
              have HON := Lib.hid (HF.out.on T (HCR.out.trans hz))
              have hz0 := hz
              clear hz
              refine wp_region_quiet_below (by kernel_rfl) (by kernel_rfl) ?_
              repeat (go_big_quiet_step ((go_at_call 19; exact Calls.regrown_of (HCK.out _ _))))
              refine wpQuiet_nil ?_
              intro _ hw'
              obtain ⟨⟨dq, osq⟩, hw''⟩ := hw'
              subst hw''
              have HCT := Lib.hid (gT dq osq)
              clear gy0 gy1 gs0 gs1 gT HCK
              replace HPL := Lib.hid (HPL.out.below (below_regrown wr dq osq))
              replace HRT := Lib.hid (HRT.out.below (below_regrown wr dq osq))
              generalize Go.«Sort».grow (redrawn wr dq) osq = W8 at *
              have y0 : W8.cell? ⟨w.heap.size, 0, none⟩ = some (.int .i64 n) := HPL.out.P.y.cell 0
              go_upto_region 18 with ((with_reducible refine gate_dst (N := 115) rfl ?_); refine Kd.R_make (Kd.int .i64) (w0 := W8) W8.heap.size 3 rfl (N := 115) rfl 27 (.tmp 114) (.tmp 114) rfl n rfl rfl Try.underlying27 (.int .i64 0) 8 info3 rfl (by decide) (by omega) 0 (ok := fun _ => True) (okp := fun _ => True) rfl (fun _ hk => hk) trivial (by omega) (by omega) (Below.refl _ _) (Nat.le_refl _) ?_; intro vm W9 ho9 hb9 hg9 hn9; have HO9 := Lib.hid ho9; have HB9 := Lib.hid hb9; clear ho9 hb9 hg9 hn9)
              obtain ⟨N, hN⟩ : ∃ N, n.toNat = N := ⟨_, rfl⟩
              have hNn : (N : Int) = n := by omega
              have ho9 := HO9.out
              rw [hN] at ho9
              obtain ⟨bO, cap, rfl, hbO, _, hrow⟩ := RowC.of_own (Kd.own_of_R ho9) (by simp; omega)
              have HBO := Lib.hid hbO
              have HROW := Lib.hid hrow
              rw [List.length_replicate]
              clear ho9 hbO hrow HO9 y0
              have HP9 := Lib.hid (HPL.out.below HB9.out)
              have s0 : W9.cell? ⟨w.heap.size + 1, 0, none⟩ = some (.int .i64 sv) := HP9.out.P.s.cell 0
              have hsl : sv.toNat < (List.replicate N (0 : Int)).length := by simp; omega
              obtain ⟨zO, cO⟩ : ∃ z, W9.cell? ⟨bO, sv.toNat, none⟩ = some (.int .i64 z) := ⟨_, HROW.out.cell sv.toNat hsl⟩
              have HSL := Lib.hid hsl
              clear hsl
              have fO := HROW.out.fz sv.toNat
              have hsN : sv < (N : Int) := by omega
              have hsv0 := hsv.1
              go_wp2
              have HIX := Lib.hid ((checkTrail_iff n l sv st v T false).1 (HCR.out.trans hz0)).2.2.1
              have hfT : ∀ j (h : j < T.length), 0 ≤ (rd_T58 l T[j]).f1 ∧ (rd_T58 l T[j]).f1.toNat < N := fun j hj => by
                have hi := HIX.out T[j] (List.getElem_mem hj)
                have := HY.out.mv _ (rdM hi.1 hi.2)
                omega
              have HFT := Lib.hid hfT
              have hM0 : MarkO W8 (W9.setCell ⟨bO, sv.toNat, none⟩ (.int .i64 1)) bO cap N l sv T 0 ((List.replicate N 0).set sv.toNat 1) := by
                refine ⟨by simp, HROW.out.set _ HSL.out 1, ?_, fun j hj h => absurd h (Nat.not_lt_zero _), below_set HB9.out HBO.out⟩
                rw [gc_set _ sv sv 1 hsv0 hsv0 HSL.out, if_pos rfl]
              have HM0 := Lib.hid hM0
              clear hfT hM0 cO fO HROW HP9 s0
              generalize W9.setCell ⟨bO, sv.toNat, none⟩ (.int .i64 1) = W10 at *
              generalize (List.replicate N (0 : Int)).set sv.toNat 1 = on0 at *
              go_loopg [20] T.length (fun kq v20 w' => ∃ (k : Nat), v20 = .int .i64 k ∧ Aside0 (k + kq = T.length) ∧ Aside0 (∃ on, MarkO W8 w' bO cap N l sv T k on))
              case atStart => exact ⟨0, rfl, ⟨by omega⟩, ⟨_, HM0.out⟩⟩
              case round =>
                obtain ⟨k, rfl, HN2, HMX⟩ := hrel
                obtain ⟨on, hM⟩ := HMX.out
                have HM := Lib.hid hM
                clear HMX hM
                cases gk with
                | succ k2 =>
                  have hltk : k < T.length := by have := HN2.out; omega
                  have hl5 : decide ((k : Int) < (T.length : Int)) = true := decide_eq_true (by omega)
                  have HPk := Lib.hid (HPL.out.below HM.out.g)
                  have cT0 : wr.cell? ⟨bT, i, none⟩ = some (.slice AT T.length cT) := cell_in HM.out.g HCT.out
                  have hTk := HIX.out T[k] (List.getElem_mem hltk)
                  have hfk := HFT.out k hltk
                  have HMS := Lib.hid (fun (W' : World) (hd : Below wr.heap.size wr W') => HM.out.step HBO.out hltk ⟨hsv.1, by omega⟩ HFT.out hd)
                  obtain ⟨tk, htk⟩ : ∃ tk, T[k] = tk := ⟨_, rfl⟩
                  have hCT := (HRT.out.below HM.out.g).C
                  obtain ⟨adT, eT, hxT⟩ := Kd.at_int hCT (k : Int) (by omega) (by omega)
                  cases eT
                  rw [Int.toNat_natCast, rd_nat T k hltk, htk] at hxT
                  rw [htk] at hTk hfk HMS
                  clear hCT htk
                  obtain ⟨Wd, ed⟩ : ∃ Wd, wr.drew = Wd := ⟨_, rfl⟩
                  have hbd : Below wr.heap.size wr Wd := by rw [← ed]; exact below_drew (Below.refl _ _)
                  obtain ⟨ad, eA, hm0, hm1, hm2, hm3⟩ := at_T58 (HPk.out.below hbd).P.C tk hTk.1 hTk.2
                  cases eA
                  have d1 : Wd.cell? ⟨w.heap.size, 1, none⟩ = some (.slice (some ad) l.length c) := (HPk.out.below hbd).P.y.cell 1
                  have dT := cell_in hbd cT0
                  have dx := cell_in hbd hxT
                  have fO := (HM.out.below hbd).row.fz (rd_T58 l tk).f1.toNat
                  obtain ⟨zO, cO⟩ : ∃ z, Wd.cell? ⟨bO, (rd_T58 l tk).f1.toNat, none⟩ = some (.int .i64 z) := ⟨_, (HM.out.below hbd).row.cell _ (by rw [HM.out.len]; exact hfk.2)⟩
                  have HW' := Lib.hid (HMS.out Wd hbd)
                  have hfk0 := hfk.1
                  have hfk1 : (rd_T58 l tk).f1 < (N : Int) := by omega
                  have hTk0 := hTk.1
                  have hTk1 := hTk.2
                  clear HMS hfk hTk hm0 hm2 hm3
                  generalize rd_T58 l tk = m at *
                  have hi6 : (i : Int) < 2 := by omega
                  have hi7 : decide (i < 2) = true := decide_eq_true hlt
                  have hi8 : (i : Int).toNat = i := by omega
                  have hk6 : (k : Int) < (T.length : Int) := by omega
                  have hk7 : decide (k < T.length) = true := decide_eq_true hltk
                  go_upto_region 22 with (fail)
                  refine wp_region_still_tail 13 (by kernel_rfl) (by kernel_rfl) ?_
                  simp only [List.take_succ_cons, List.take_zero, List.drop_succ_cons, List.drop_zero]
                  generalize hzz : ({ heap := wr.heap, tape := wr.tape, drawn := wr.drawn + 1, os := wr.os, output := wr.output } : World) = Wz
                  have hz1 : Wz = Wd := hzz.symm.trans ed
                  subst hz1
                  clear hzz
                  repeat still_step
                  refine wpStill_nil ?_
                  go_wp2
                  go_roundg k2
                  case rel => exact ⟨k + 1, by go_num, ⟨by have := HN2.out; omega⟩, ⟨_, HW'.out⟩⟩
                  case measure => omega
                | zero =>
                  have hk : k = T.length := by have := HN2.out; omega
                  subst hk
                  have hl5 : decide ((T.length : Int) < (T.length : Int)) = false := decide_eq_false (by omega)
                  have hi6 : (i : Int) < 2 := by omega
                  have hi7 : decide (i < 2) = true := decide_eq_true hlt
                  have cT0 : wr.cell? ⟨bT, i, none⟩ = some (.slice AT T.length cT) := cell_in HM.out.g HCT.out
                  have HMK := Lib.hid (show ∀ x ∈ p, 0 ≤ x ∧ x.toNat < N ∧ gc on x = 1 from fun x hx => by
                    have hr := HF.out.mem x hx
                    refine ⟨hr.1, by omega, ?_⟩
                    rcases HON.out x hx with e | ⟨y, hy, e⟩
                    · rw [e]; exact HM.out.own
                    · obtain ⟨q, hq, rfl⟩ := List.getElem_of_mem hy
                      rw [← e]
                      exact HM.out.mark q hq hq)
                  go_wp2
                  clear cT0
                  go_loopg [21] p.length (fun kq v21 w' => ∃ (j : Nat), v21 = .int .i64 j ∧ Aside0 (j + kq = p.length) ∧ Aside0 (MarkO W8 w' bO cap N l sv T T.length on))
                  case atStart => exact ⟨0, rfl, ⟨by omega⟩, ⟨HM.out⟩⟩
                  case round =>
                    obtain ⟨j, rfl, HN3, HM3⟩ := hrel
                    cases gk with
                    | succ k3 =>
                      have hltj : j < p.length := by have := HN3.out; omega
                      have hpm := HF.out.len
                      have hl8 : decide ((j : Int) < (p.length : Int)) = true := decide_eq_true (by omega)
                      have hj6 : (j : Int) < (p.length : Int) := by omega
                      have hj7 : decide (j < p.length) = true := decide_eq_true hltj
                      obtain ⟨x0, x1, x2⟩ := HMK.out p[j] (List.getElem_mem hltj)
                      have hCP := (HPL.out.below HM3.out.g).p.C
                      obtain ⟨adP, eP, hxP⟩ := Kd.at_int hCP (j : Int) (by omega) (by omega)
                      cases eP
                      rw [Int.toNat_natCast, rd_nat p j hltj] at hxP
                      generalize p[j] = x at *
                      have hon : x.toNat < on.length := by rw [HM3.out.len]; exact x1
                      have cO := HM3.out.row.cell x.toNat hon
                      have eO : on[x.toNat] = 1 := by
                        unfold gc at x2
                        rw [List.getD_eq_getElem?_getD, List.getElem?_eq_getElem hon] at x2
                        exact x2
                      rw [eO] at cO
                      have hx3 : x < (N : Int) := by omega
                      clear eO hon x2 x1 hCP
                      go_wp2
                      go_roundg k3
                      case rel => exact ⟨j + 1, by go_num, ⟨by have := HN3.out; omega⟩, ⟨HM3.out⟩⟩
                      case measure => omega
                    | zero =>
                      have hj : j = p.length := by have := HN3.out; omega
                      subst hj
                      have hl8 : decide ((p.length : Int) < (p.length : Int)) = false := decide_eq_false (by omega)
                      have HP10 := Lib.hid (HPL.out.below HM3.out.g)
                      go_wp2
                      go_roundg k1
                      case rel => exact ⟨i + 1, by go_num, ⟨by have := HN.out; omega⟩, ⟨HP10.out⟩⟩
                      case measure => omega
            · have hq : (cr != 0) = true := by simp [hz]
              clear hz
              refine wp_region_quiet_below (by kernel_rfl) (by kernel_rfl) ?_
              repeat (go_big_quiet_step ((go_at_call 19; exact Calls.regrown_of (HCK.out _ _))))
              refine wpQuiet_nil ?_
              intro _ hw'
              obtain ⟨⟨dq, osq⟩, hw''⟩ := hw'
              subst hw''
              clear gy0 gy1 gs0 gs1 gT HCK
              have HP8 := Lib.hid (HPL.out.below (below_regrown wr dq osq))
              go_wp2
              go_roundg k1
              case rel => exact ⟨i + 1, by go_num, ⟨by have := HN.out; omega⟩, ⟨HP8.out⟩⟩
              case measure => omega
          | zero =>
            have hi : i = 2 := by have := HN.out; omega
            subst hi
            clear HL
            go_wp2
            go_loopg [22, 23, 24, 25] p.length (fun kq v22 v23 v24 v25 w' => ∃ (j : Nat), v25 = .int .i64 j ∧ v22 = .bool (inB (p.take j) sv) ∧ v23 = .bool (inB (p.take j) v) ∧ v24 = .bool (inB (p.take j) o) ∧ Aside0 (j + kq = p.length) ∧ Aside0 (PLs w w' n sv st A c l bT At ct t' Ag cg gl Ap cp p))
            case atStart => exact ⟨0, rfl, rfl, rfl, rfl, ⟨by omega⟩, ⟨HPL.out⟩⟩
            case round =>
              obtain ⟨j, rfl, rfl, rfl, rfl, HN4, HP4⟩ := hrel
              cases gk with
              | succ k4 =>
                have hltj : j < p.length := by have := HN4.out; omega
                have hpm := HF.out.len
                have hl8 : decide ((j : Int) < (p.length : Int)) = true := decide_eq_true (by omega)
                have hj6 : (j : Int) < (p.length : Int) := by omega
                have hj7 : decide (j < p.length) = true := decide_eq_true hltj
                have HE1 := Lib.hid (inB_succ p j hltj sv)
                have HE2 := Lib.hid (inB_succ p j hltj v)
                have HE3 := Lib.hid (inB_succ p j hltj o)
                have hCP := HP4.out.p.C
                obtain ⟨adP, eP, hxP⟩ := Kd.at_int hCP (j : Int) (by omega) (by omega)
                cases eP
                rw [Int.toNat_natCast, rd_nat p j hltj] at hxP
                have s0 : wr.cell? ⟨w.heap.size + 1, 0, none⟩ = some (.int .i64 sv) := HP4.out.P.s.cell 0
                generalize p[j] = x at *
                generalize inB (p.take j) sv = q1 at *
                generalize inB (p.take j) v = q2 at *
                generalize inB (p.take j) o = q3 at *
                clear hCP
                go_upto_region 32 with (fail)
                cases q1 <;> cases q2 <;> cases q3 <;>
                  (go_quiet (fail)
                   have HP5 := Lib.hid (HP4.out.below (drawn_below (W' := wr.drewN nq) ⟨nq, rfl⟩))
                   go_wp2
                   go_roundg k4
                   case rel => exact ⟨j + 1, by go_num, by rw [HE1.out]; first | rfl | (simp; done), by rw [HE2.out]; first | rfl | (simp; done), by rw [HE3.out]; first | rfl | (simp; done), ⟨by have := HN4.out; omega⟩, ⟨HP5.out⟩⟩
                   case measure => omega)
              | zero =>
                have hj : j = p.length := by have := HN4.out; omega
                subst hj
                have hl8 : decide ((p.length : Int) < (p.length : Int)) = false := decide_eq_false (by omega)
                rw [List.take_length]
                have e1 : inB p sv = true := (inB_iff _ _).2 HF.out.own
                have e2 : inB p v = true := (inB_iff _ _).2 HF.out.fin
                rw [e1, e2]
                obtain ⟨ob, hob⟩ : ∃ ob, inB p o = ob := ⟨_, rfl⟩
                rw [hob]
                have HOB := Lib.hid hob
                clear e1 e2 hob
                have y0 : wr.cell? ⟨w.heap.size, 0, none⟩ = some (.int .i64 n) := HP4.out.P.y.cell 0
                have s0 : wr.cell? ⟨w.heap.size + 1, 0, none⟩ = some (.int .i64 sv) := HP4.out.P.s.cell 0
                by_cases hos : o = sv
                · have hq : (o == sv) = true := by simp [hos]
                  clear hos
                  go_wp2_with (go_at_call 15; refine (works_calls _).mono ?_; rintro e W5 ⟨rfl, hb⟩; have HB5 := Lib.hid hb; clear hb)
                  go_ret
                  exact ⟨rfl, HP4.out.P.g.trans (HB5.out.mono HP4.out.P.g.size)⟩
                · have hq : (o == sv) = false := by simp [hos]
                  have HOS := Lib.hid hos
                  clear hos
                  obtain ⟨t2, hT2⟩ := HF.out.wo o ho0 ho1 HOS.out
                  obtain ⟨e2, he2⟩ : ∃ e2, (if o ∈ p then (5 : Int) else 0) = e2 := ⟨_, rfl⟩
                  rw [he2] at hT2
                  have HT2 := Lib.hid hT2
                  have HE2 := Lib.hid (show e2 = if ob = true then 5 else 0 from by
                    rw [← he2, ← HOB.out]
                    by_cases hm : o ∈ p
                    · rw [if_pos hm, if_pos ((inB_iff _ _).2 hm)]
                    · rw [if_neg hm, if_neg (fun h => hm ((inB_iff _ _).1 h))])
                  have y1 : wr.cell? ⟨w.heap.size, 1, none⟩ = some (.slice A l.length c) := HP4.out.P.y.cell 1
                  have s1 : wr.cell? ⟨w.heap.size + 1, 1, none⟩ = some (.int .i64 st) := HP4.out.P.s.cell 1
                  clear hT2 he2
                  go_upto_region 37 with (fail)
                  refine start_ (n := 10) (S := fun w' => w'.cell? ⟨w.heap.size, 0, none⟩ = some (.int .i64 n) ∧ w'.cell? ⟨w.heap.size, 1, none⟩ = some (.slice A l.length c) ∧ w'.cell? ⟨w.heap.size + 1, 0, none⟩ = some (.int .i64 sv) ∧ w'.cell? ⟨w.heap.size + 1, 1, none⟩ = some (.int .i64 st) ∧ Below wr.heap.size wr w') (ds := [5]) #[false, false, false, false, false, false, false, false, false, false] (by kernel_rfl) rfl rfl ⟨y0, y1, s0, s1, below_drew (Below.refl _ _)⟩ (fun hHeld => ?_)
                  clear y0 y1 s0 s1
                  generalize wr.drew = wd at hHeld ⊢
                  refine pure_ (i := 1) (N := some 204) (v := ?_) (a' := ?_) #[false, true, false, false, false, false, false, false, false, false] rfl rfl (by kernel_rfl) (fun _ _ _ h => h) (Or.inl ⟨by rfl, ?_⟩) ?_ ?_
                  rotate_left
                  · intro w'
                    go_simp
                    with_reducible rfl
                  rotate_left
                  · simp only [Act.put, List.setIfInBounds_toArray, List.set_cons_zero, List.set_cons_succ, i64_w, i32_w]
                    rfl
                  refine pure_ (i := 4) (N := some 207) (v := ?_) (a' := ?_) #[false, true, false, false, true, false, false, false, false, false] rfl rfl (by kernel_rfl) (fun _ _ _ h => h) (Or.inl ⟨by rfl, ?_⟩) ?_ ?_
                  rotate_left
                  · intro w'
                    go_simp
                    with_reducible rfl
                  rotate_left
                  · simp only [Act.put, List.setIfInBounds_toArray, List.set_cons_zero, List.set_cons_succ, i64_w, i32_w]
                    rfl
                  refine take_ (i := 0) (N := some 203) (v := ?_) (a' := ?_) #[true, true, false, false, true, false, false, false, false, false] rfl rfl (by kernel_rfl) (fun _ _ _ h => h) (Or.inl ⟨by rfl, ?_⟩) hHeld ?_ ?_
                  rotate_left
                  · rintro w' ⟨q0, q1, q2, q3, _⟩
                    go_simp
                    with_reducible rfl
                  rotate_left
                  · simp only [Act.put, List.setIfInBounds_toArray, List.set_cons_zero, List.set_cons_succ, i64_w, i32_w]
                    rfl
                  refine take_ (i := 3) (N := some 206) (v := ?_) (a' := ?_) #[true, true, false, true, true, false, false, false, false, false] rfl rfl (by kernel_rfl) (fun _ _ _ h => h) (Or.inl ⟨by rfl, ?_⟩) hHeld ?_ ?_
                  rotate_left
                  · rintro w' ⟨q0, q1, q2, q3, _⟩
                    go_simp
                    with_reducible rfl
                  rotate_left
                  · simp only [Act.put, List.setIfInBounds_toArray, List.set_cons_zero, List.set_cons_succ, i64_w, i32_w]
                    rfl
                  refine one_ (i := 2) (N := some 205) #[true, true, true, true, true, false, false, false, false, false] rfl rfl (by kernel_rfl) (by decide) (fun K hK => ?_)
                  refine goes_ Try.func41 (by kernel_rfl) rfl #[.agg #[.int .i64 n, .slice A l.length c], .int .i64 o] (by rfl) rfl rfl (by (try simp only [List.map_toArray, List.map_cons, List.map_nil]); first | done | rfl | (simp only [List.length_drop, List.length_take]; rfl)) ?_
                  refine (forecourtlaw05_without.calls 1002 n A c l o n (l.filter (notToF o)) _ (HP4.out.P.below hHeld.2.2.2.2).C HP4.out.P.hc (without_eq n l o (by omega))).mono ?_
                  rintro e w66 ⟨v1, rfl, ho, hb⟩
                  obtain ⟨A1, c1, hv⟩ := Kd.R_slice ho
                  subst hv
                  have HR1 := Lib.hid (Rd.of ho)
                  have HPw := Lib.hid ((HP4.out.P.below hHeld.2.2.2.2).below hb)
                  have HBw := Lib.hid (below_then hHeld.2.2.2.2 hHeld.2.2.2.2.size hb)
                  refine ⟨_, rfl, ?_⟩
                  refine hK.out _ _ ⟨HPw.out.y.cell 0, HPw.out.y.cell 1, HPw.out.s.cell 0, HPw.out.s.cell 1, HBw.out⟩ (fun hHeld => ?_)
                  clear hK K ho hb
                  refine norm_ (a' := ?_) ?_ ?_
                  rotate_left
                  · show Act.put _ (some 205) _ = _
                    simp only [Act.put, List.setIfInBounds_toArray, List.set_cons_zero, List.set_cons_succ, i64_w, i32_w]
                    rfl
                  refine last_ (i := 5) (N := some 208) #[true, true, true, true, true, true, false, false, false, false] rfl rfl (by kernel_rfl) (by decide) (fun K hK => ?_)
                  refine goes_ Try.func32 (by kernel_rfl) rfl #[.agg #[.int .i64 n, .slice A1 (l.filter (notToF o)).length c1], .agg #[.int .i64 sv, .int .i64 st], .int .i64 v] (by rfl) rfl rfl (by (try simp only [List.map_toArray, List.map_cons, List.map_nil]); first | done | rfl | (simp only [List.length_drop, List.length_take]; rfl)) ?_
                  refine (trail_calls n A1 c1 (l.filter (notToF o)) sv st v t2 e2 _ HR1.out.C HT2.out).mono ?_
                  rintro e w67 ⟨vt, rfl, ho, hb⟩
                  have HB67 := Lib.hid (below_then HBw.out HBw.out.size hb)
                  refine ⟨_, rfl, ?_⟩
                  refine hK.out _ _ ?_
                  clear hK K ho hb hHeld
                  refine norm_ (a' := ?_) ?_ ?_
                  rotate_left
                  · show Act.put _ (some 208) _ = _
                    simp only [Act.put, List.setIfInBounds_toArray, List.set_cons_zero, List.set_cons_succ, i64_w, i32_w]
                    rfl
                  refine pure_ (i := 6) (N := some 202) (v := ?_) (a' := ?_) #[true, true, true, true, true, true, true, false, false, false] rfl rfl (by kernel_rfl) (fun _ _ _ h => h) (Or.inl ⟨by rfl, ?_⟩) ?_ ?_
                  rotate_left
                  · intro w'
                    go_simp
                    with_reducible rfl
                  rotate_left
                  · simp only [Act.put, List.setIfInBounds_toArray, List.set_cons_zero, List.set_cons_succ, i64_w, i32_w]
                    rfl
                  refine pure_ (i := 7) (N := some 209) (v := ?_) (a' := ?_) #[true, true, true, true, true, true, true, true, false, false] rfl rfl (by kernel_rfl) (fun _ _ _ h => h) (Or.inl ⟨by rfl, ?_⟩) ?_ ?_
                  rotate_left
                  · intro w'
                    go_simp
                    with_reducible rfl
                  rotate_left
                  · simp only [Act.put, List.setIfInBounds_toArray, List.set_cons_zero, List.set_cons_succ, i64_w, i32_w]
                    rfl
                  refine pure_ (i := 8) (N := some 210) (v := ?_) (a' := ?_) #[true, true, true, true, true, true, true, true, true, false] rfl rfl (by kernel_rfl) (fun _ _ _ h => h) (Or.inl ⟨by rfl, ?_⟩) ?_ ?_
                  rotate_left
                  · intro w'
                    go_simp
                    with_reducible rfl
                  rotate_left
                  · simp only [Act.put, List.setIfInBounds_toArray, List.set_cons_zero, List.set_cons_succ, i64_w, i32_w]
                    rfl
                  refine pure_ (i := 9) (N := some 14) (v := ?_) (a' := ?_) #[true, true, true, true, true, true, true, true, true, true] rfl rfl (by kernel_rfl) (fun _ _ _ h => h) (Or.inl ⟨by rfl, ?_⟩) ?_ ?_
                  rotate_left
                  · intro w'
                    go_simp
                    with_reducible rfl
                  rotate_left
                  · simp only [Act.put, List.setIfInBounds_toArray, List.set_cons_zero, List.set_cons_succ, i64_w, i32_w]
                    rfl
                  refine done_ (by kernel_rfl) ?_
                  have HPG := Lib.hid (HP4.out.P.g.trans (HB67.out.mono HP4.out.P.g.size))
                  have he := HE2.out
                  cases ob with
                  | true =>
                    rw [if_pos rfl] at he
                    subst he
                    go_wp2_with (go_at_call 15; refine (works_calls _).mono ?_; rintro e W5 ⟨rfl, hb⟩; have HB5 := Lib.hid hb; clear hb)
                    go_ret
                    exact ⟨rfl, HPG.out.trans (HB5.out.mono HPG.out.size)⟩
                  | false =>
                    rw [if_neg (by decide)] at he
                    subst he
                    go_wp2_with (go_at_call 15; refine (works_calls _).mono ?_; rintro e W5 ⟨rfl, hb⟩; have HB5 := Lib.hid hb; clear hb)
                    go_ret
                    exact ⟨rfl, HPG.out.trans (HB5.out.mono HPG.out.size)⟩
end Go.Proofs.Ytfhmepdbbhcncaa.P
