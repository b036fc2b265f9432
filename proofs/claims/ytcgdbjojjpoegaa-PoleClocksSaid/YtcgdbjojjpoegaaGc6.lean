/- Texts of this claim, joined: K, L, Pf21, Pf36, Pf17, T1, Pf39, Pf19, T2. -/
import Derived.Test.YtcgdbjojjpoegaaGc5
import Derived.Deep.Slices
import Derived.ChangeShapes
import Derived.ChangeOld
import Derived.Lib.SmallJoins
namespace Go.Proofs.YtcgdbjojjpoegaaK
open Go.RowKit Go.ChangeShapes Go.WideShapes Go.Deep Go.Joins Go.Proofs.YtcgdbjojjpoegaaW.PrintWords Go.Proofs.YtcgdbjojjpoegaaW.PrintLast Go.Proofs.YtcgdbjojjpoegaaW.PrintMore

/-- What the cells of a type read as: a value of the kind d, which is ok. -/
def Opens {α : Type} (P : Program) (t : TypeId) (d : Kd α) (ok : α → Prop) : Prop :=
  ∀ (H : Type) (enc : TypeId × Value → H) (w : World) (base : Nat) (spare : Nat → Bool) (held : Bool) (fuel : Nat) (cs : List Value) (x : DataW H × List MemPlace), DataW.trod enc P w base spare held fuel t cs = some x → ∃ a, d.K w a cs ∧ ok a
theorem Opens.int {P : Program} {t : TypeId} {k : IntKind} (ht : P.underlying t = some (.int k)) : Opens P t (Kd.int k) (fun n => (Lit.int k n).wf = true) := by
  intro H enc w base spare held fuel cs x h
  obtain ⟨n, rfl, _, hw⟩ := DataW.trod_int ht h
  exact ⟨n, rfl, hw⟩
/-- Two fields side by side. -/
theorem opens_two {α β γ : Type} {P : Program} {t t0 t1 : TypeId} {d0 : Kd α} {d1 : Kd β} {ok0 : α → Prop} {ok1 : β → Prop} {fs : Array Field} {s0 s1 : Nat} (ht : P.underlying t = some (.struct fs))
    (f0 : fs[0]?.map (fun f => (f.type, f.offset)) = some (t0, 0)) (f1 : fs[1]?.map (fun f => (f.type, f.offset)) = some (t1, s0)) (c0 : P.cellsOf t0 = s0) (c1 : P.cellsOf t1 = s1) (hC : P.cellsOf t = s0 + s1) (h0 : Opens P t0 d0 ok0) (h1 : Opens P t1 d1 ok1)
    (d : Kd γ) (ok : γ → Prop) (hd : ∀ w a b x y, d0.K w a x → d1.K w b y → ok0 a → ok1 b → ∃ g, d.K w g (x ++ y) ∧ ok g) : Opens P t d ok := by
  intro H enc w base spare held fuel cs x h
  obtain ⟨xs, n, _, _, hl, hxl, hf⟩ := DataW.trod_struct ht h
  cases e0 : fs[0]? with
  | none => simp [e0] at f0
  | some g0 => ?_
  cases e1 : fs[1]? with
  | none => simp [e1] at f1
  | some g1 => ?_
  simp only [e0, e1, Option.map_some, Option.some.injEq, Prod.mk.injEq] at f0 f1
  have hs : 1 < fs.size := (Array.getElem?_eq_some_iff.1 e1).1
  have r0 := hf 0 g0 e0
  have r1 := hf 1 g1 e1
  rw [f0.1, f0.2, c0] at r0
  rw [f1.1, f1.2, c1] at r1
  rw [List.getElem?_eq_getElem (by omega)] at r0 r1
  obtain ⟨a, ka, oa⟩ := h0 H enc w base spare held n _ _ r0
  obtain ⟨b, kb, ob⟩ := h1 H enc w base spare held n _ _ r1
  obtain ⟨g, kg, og⟩ := hd w a b _ _ ka kb oa ob
  have : (cs.drop 0).take s0 ++ (cs.drop s0).take s1 = cs := by
    rw [List.drop_zero, List.take_of_length_le (l := cs.drop s0) (by rw [List.length_drop]; omega), List.take_append_drop]
  rw [this] at kg
  exact ⟨g, kg, og⟩
/-- A slice of what opens, from its one cell. -/
theorem opens_slice {α : Type} {P : Program} {t e : TypeId} {d : Kd α} {ok : α → Prop} (ht : P.underlying t = some (.slice e)) (hc : P.cellsOf e = d.sz) (he : Opens P e d ok)
    {H : Type} {enc : TypeId × Value → H} {w : World} {base : Nat} {spare : Nat → Bool} {held : Bool} {fuel : Nat} {cs : List Value} {x : DataW H × List MemPlace} (h : DataW.trod enc P w base spare held fuel t cs = some x) :
    ∃ (A : Option Addr) (c : Nat) (l : List α), cs = [.slice A l.length c] ∧ l.length ≤ c ∧ d.C w A l.length l ∧ ∀ a ∈ l, ok a := by
  rcases open_slice ht h with ⟨rfl, _⟩ | ⟨a, len, cap, m, n, D, Pl, rfl, hb, hl, hm, hmm, _, hx⟩
  · exact ⟨none, 0, [], rfl, Nat.le_refl _, ⟨rfl, (by simp), fun h => absurd h (by simp)⟩, (by simp)⟩
  have hle : len ≤ m := by rw [hmm]; split <;> omega
  have hex : ∀ i, i < len → ∃ y : α, ok y ∧ ∃ cs', cs'.length = d.sz ∧ d.K w y cs' ∧ ∀ j u, cs'[j]? = some u → w.cell? (a.add (i * d.sz + j)) = some u := by
    intro i hi
    obtain ⟨cs', h1, h2⟩ := hx i (by omega)
    obtain ⟨y, ky, oy⟩ := he H enc w base spare held n _ _ h2
    obtain ⟨_, hlen, hcell⟩ := World.cells?_some h1
    rw [hc] at hlen hcell
    refine ⟨y, oy, cs', hlen, ky, fun j u hu => ?_⟩
    have hj : j < d.sz := by
      have := (List.getElem?_eq_some_iff.1 hu).1
      omega
    have := hcell j hj
    rw [Go.Deep.add_add] at this
    rw [this, hu]
  have key : ∀ N, N ≤ len → ∃ l : List α, l.length = N ∧ (∀ y ∈ l, ok y) ∧ ∀ j p, l[j]? = some p → ∃ c, c.length = d.sz ∧ d.K w p c ∧ ∀ i u, c[i]? = some u → w.cell? (a.add (j * d.sz + i)) = some u := by
    intro N
    induction N with
    | zero => exact fun _ => ⟨[], rfl, (by simp), fun j p h => by simp at h⟩
    | succ N ih =>
      intro hN
      obtain ⟨l, hl1, hl2, hl3⟩ := ih (by omega)
      obtain ⟨y, oy, cs', hs, ky, hcell⟩ := hex N (by omega)
      refine ⟨l ++ [y], (by simp [hl1]), fun z hz => ?_, fun j p hj => ?_⟩
      · rcases List.mem_append.1 hz with hz | hz
        · exact hl2 z hz
        · rw [List.mem_singleton] at hz; subst hz; exact oy
      · by_cases hjl : j < l.length
        · rw [List.getElem?_append_left hjl] at hj
          exact hl3 j p hj
        · rw [List.getElem?_append_right (by omega)] at hj
          have hj0 : j - l.length = 0 := by
            have := (List.getElem?_eq_some_iff.1 hj).1
            simp at this
            omega
          rw [hj0] at hj
          simp only [List.getElem?_cons_zero, Option.some.injEq] at hj
          subst hj
          have : j = N := by omega
          subst this
          exact ⟨cs', hs, ky, hcell⟩
  obtain ⟨l, hl1, hl2, hl3⟩ := key len (Nat.le_refl _)
  subst hl1
  refine ⟨some a, cap, l, rfl, hl, ⟨rfl, ?_, fun _ => ⟨a, rfl, hl3⟩⟩, hl2⟩
  have : maxLen = 9223372036854775807 := rfl
  omega
/-- A slice that was passed. -/
theorem arg_slice {α : Type} {P : Program} {t e : TypeId} {d : Kd α} {ok : α → Prop} (ht : P.underlying t = some (.slice e)) (hc : P.cellsOf e = d.sz) (he : Opens P e d ok)
    {H : Type} {enc : TypeId × Value → H} {w : World} {r : Reach} {base b0 : Nat} {spare : Nat → Bool} {held : Bool} {v : Value} {dd : DataW H} {p : List MemPlace} (hv : Value.okWide P w r b0 t v) (h : DataW.Trod enc P w base spare held t v dd p) :
    ∃ (A : Option Addr) (c : Nat) (l : List α), v = .slice A l.length c ∧ l.length ≤ c ∧ d.C w A l.length l ∧ ∀ a ∈ l, ok a := by
  obtain ⟨A, n, c, rfl⟩ := okWide_slice ht hv
  obtain ⟨fuel, hf⟩ := h
  obtain ⟨A', c', l, hcs, hl, hC, hok⟩ := opens_slice ht hc he hf
  have : [Value.slice A n c] = [Value.slice A' l.length c'] := hcs
  simp only [List.cons.injEq, Value.slice.injEq, and_true] at this
  obtain ⟨rfl, rfl, rfl⟩ := this
  exact ⟨A, c, l, rfl, hl, hC, hok⟩
theorem arg_lt {P : Program} {H : Type} {enc : TypeId × Value → H} {w : World} {base : Nat} {spare : Nat → Bool} {held : Bool} {t : TypeId} {v : Value} {dd : DataW H} {p : List MemPlace} (h : DataW.Trod enc P w base spare held t v dd p) : ∀ x ∈ p, x.block < w.heap.size := by
  obtain ⟨m, hm⟩ := h
  exact DataW.trod_lt m _ _ _ hm
end Go.Proofs.YtcgdbjojjpoegaaK

namespace Go.Proofs.Ytcgdbjojjpoegaa.P
open Go.RowKit Go.ChangeShapes Go.WideShapes Go.Deep Go.Joins Go.Proofs.YtcgdbjojjpoegaaW.PrintWords Go.Proofs.YtcgdbjojjpoegaaW.PrintLast Go.Proofs.YtcgdbjojjpoegaaW.PrintMore Go.Proofs.YtcgdbjojjpoegaaK
set_option maxRecDepth 100000

/-- A whole number that Go's int64 holds. -/
def I64 (n : Int) : Prop := (Lit.int .i64 n).wf = true
theorem opens2 : Opens Try.prog 2 (Kd.int .i64) I64 := Opens.int Try.underlying2
theorem opens54 : Opens Try.prog 54 k54 (fun x => I64 x.f0 ∧ I64 x.f1) :=
  opens_two (s0 := 1) (s1 := 1) Try.underlying54 rfl rfl (by kernel_rfl) (by kernel_rfl) (by kernel_rfl) opens2 opens2 _ _ (fun w a b x y ha hb oa ob => ⟨⟨a, b⟩, ⟨x, y, rfl, ha, hb⟩, oa, ob⟩)
/-- A sign that was passed. -/
theorem arg_sign {H : Type} {enc : TypeId × Value → H} {w : World} {r : Reach} {b0 : Nat} {spare : Nat → Bool} {v : Value} {dd : DataW H} {p : List MemPlace} (hv : Value.okWide Try.prog w r b0 22 v) (h : DataW.Trod enc Try.prog w 0 spare true 22 v dd p) :
    ∃ (A : Option Addr) (c : Nat) (l : List S54), v = .slice A l.length c ∧ l.length ≤ c ∧ Kd.C k54 w A l.length l ∧ ∀ x ∈ l, I64 x.f0 ∧ I64 x.f1 := arg_slice (d := k54) Try.underlying22 (by kernel_rfl) opens54 hv h
/-- Clocks that were passed. -/
theorem arg_clocks {H : Type} {enc : TypeId × Value → H} {w : World} {r : Reach} {b0 : Nat} {spare : Nat → Bool} {v : Value} {dd : DataW H} {p : List MemPlace} (hv : Value.okWide Try.prog w r b0 24 v) (h : DataW.Trod enc Try.prog w 0 spare true 24 v dd p) :
    ∃ (a b : Int), v = .agg #[.int .i64 a, .int .i64 b] ∧ I64 a ∧ I64 b := by
  obtain ⟨v0, v1, y0, y1, n, rfl, rfl, rfl, h0, h1⟩ := open_agg2 Try.underlying24 (by kernel_rfl) (by kernel_rfl) hv h
  obtain ⟨a, e0, _, wa⟩ := DataW.trod_int Try.underlying2 h0
  obtain ⟨b, e1, _, wb⟩ := DataW.trod_int Try.underlying2 h1
  simp only [List.cons.injEq, and_true] at e0 e1
  subst e0 e1
  exact ⟨a, b, rfl, wa, wb⟩
end Go.Proofs.Ytcgdbjojjpoegaa.P

namespace Go.Proofs.Ytcgdbjojjpoegaa.P
open Go.RowKit Go.Proofs.YtcgdbjojjpoegaaW.PrintWords Go.Proofs.YtcgdbjojjpoegaaW.PrintLast Go.Proofs.YtcgdbjojjpoegaaW.PrintMore
attribute [local go_sem] max2_int min2_int max_two min_two max_three min_three max_four min_four   -- for this text's walks alone
set_option linter.unusedVariables false
set_option linter.unusedSimpArgs false

/-! ### forecourtref09_CheckSign: function 21 -/
mutual
def forecourtref09_CheckSign.j0 : Nat → List (S54) → Bool → Option (Int)
  | 0, _, _ => none
  | k + 1, x0, x12 => if x12 = true then (some 6) else (forecourtref09_CheckSign.l0 k x0 0)
def forecourtref09_CheckSign.l0 : Nat → List (S54) → Int → Option (Int)
  | 0, _, _ => none
  | k + 1, x0, x3 => if x3 < (x0.length : Int) then (if x3 = 0 then (if 0 ≤ x3 then (if ((rd_T54 x0 x3).f0) = 0 then (if x3 > 0 then (if 0 ≤ (wrap64 (x3 - 1)) then (if (wrap64 (x3 - 1)) < (x0.length : Int) then (if ((rd_T54 x0 x3).f0) ≤ ((rd_T54 x0 (wrap64 (x3 - 1))).f0) then (some 3) else (if ((rd_T54 x0 x3).f0) > 2000 then (some 3) else (forecourtref09_CheckSign.l0 k x0 (wrap64 (x3 + 1))))) else (none)) else (none)) else (if ((rd_T54 x0 x3).f0) > 2000 then (some 3) else (forecourtref09_CheckSign.l0 k x0 (wrap64 (x3 + 1))))) else (some 3)) else (none)) else (if x3 > 0 then (if 0 ≤ x3 then (if 0 ≤ (wrap64 (x3 - 1)) then (if (wrap64 (x3 - 1)) < (x0.length : Int) then (if ((rd_T54 x0 x3).f0) ≤ ((rd_T54 x0 (wrap64 (x3 - 1))).f0) then (some 3) else (if ((rd_T54 x0 x3).f0) > 2000 then (some 3) else (forecourtref09_CheckSign.l0 k x0 (wrap64 (x3 + 1))))) else (none)) else (none)) else (none)) else (if 0 ≤ x3 then (if ((rd_T54 x0 x3).f0) > 2000 then (some 3) else (forecourtref09_CheckSign.l0 k x0 (wrap64 (x3 + 1)))) else (none)))) else (forecourtref09_CheckSign.l1 k x0 0)
def forecourtref09_CheckSign.l1 : Nat → List (S54) → Int → Option (Int)
  | 0, _, _ => none
  | k + 1, x0, x4 => if x4 < (x0.length : Int) then (if 0 ≤ x4 then (if ((rd_T54 x0 x4).f1) < 1 then (some 22) else (if ((rd_T54 x0 x4).f1) > 100000 then (some 22) else (forecourtref09_CheckSign.l1 k x0 (wrap64 (x4 + 1))))) else (none)) else (some 0)
end
def forecourtref09_CheckSign.f (k : Nat) (l0 : List (S54)) : Option (Int) := if (l0.length : Int) < 1 then (forecourtref09_CheckSign.j0 k l0 true) else (forecourtref09_CheckSign.j0 k l0 (decide ((l0.length : Int) > 30)))
set_option maxHeartbeats 8000000 in
set_option maxRecDepth 100000 in
theorem forecourtref09_CheckSign.calls (k : Nat) (A0 : Option Addr) (c0 : Nat) (l0 : List (S54)) (r : Int) (w : World) (hr0 : Kd.C k54 w A0 l0.length l0) (hc0 : l0.length ≤ c0) (h : forecourtref09_CheckSign.f k l0 = some r) :
    Calls Try.prog 21 #[.slice A0 l0.length c0] w fun e w' => e = .returned (.int .i64 r) ∧ Drawn0 w w' := by
  have HR0 := Aside0.mk hr0
  have HC0 := Aside0.mk hc0
  clear hr0 hc0
  have H : (if (l0.length : Int) < 1 then (forecourtref09_CheckSign.j0 k l0 true) else (forecourtref09_CheckSign.j0 k l0 (decide ((l0.length : Int) > 30)))) = some r := h
  clear h
  have HC2 := Aside0.mk H
  clear H
  go_enter Try.func21, Try.ntmps21
  go_upto_region 1 with (fail)
  go_cut [12] (fun v12 wc => ∃ (kq : Nat) (x12_1 : Bool), v12 = .bool x12_1 ∧ Aside0 (forecourtref09_CheckSign.j0 kq l0 x12_1 = some r) ∧ Aside0 (kq ≤ k) ∧ Drawn0 w wc)
  case first =>
    have H := HC2.out
    clear HC2
    by_cases c3 : (l0.length : Int) < 1
    · rw [if_pos c3] at H
      have c3b0 : decide ((l0.length : Int) < 1) = true := decide_eq_true c3
      have c3b1 : decide (l0.length < 1) = true := decide_eq_true (by omega)
      clear c3
      (first | rw [c3b0] | (simp only [i64_w, i32_w]; rw [c3b0]) | skip)
      have H' := Aside0.mk H
      clear H
      go_wp2
      go_meet
      case rel => exact ⟨_, (true), b5_, H', ⟨b26_⟩, b8_⟩
    rw [if_neg c3] at H
    have c3b0 : decide ((l0.length : Int) < 1) = false := decide_eq_false c3
    have c3b1 : decide (l0.length < 1) = false := decide_eq_false (by omega)
    clear c3
    (first | rw [c3b0] | (simp only [i64_w, i32_w]; rw [c3b0]) | skip)
    have H' := Aside0.mk H
    clear H
    go_wp2
    go_meet
    case rel => exact ⟨_, (decide ((l0.length : Int) > 30)), b5_, H', ⟨b26_⟩, b8_⟩
  clear HC2
  try clear c2
  try clear p2
  try clear c3
  try clear c3b0
  try clear c3b1
  obtain ⟨kq, x12_1, rfl, HA, HJ1, ⟨mc1, rfl⟩⟩ := hcut
  cases kq with
  | zero => exact absurd HA.out (by simp [forecourtref09_CheckSign.j0])
  | succ kj1 => ?_
  have H := HA.out
  clear HA
  simp only [forecourtref09_CheckSign.j0] at H
  by_cases c4 : x12_1 = true
  · subst c4
    have H1 : (some 6) = some r := by rw [if_pos rfl] at H; exact H
    clear H
    have H := H1
    clear H1
    obtain rfl := Option.some.inj H
    go_wp2
    go_ret
    exact ⟨b5_, b8_⟩
  replace c4 := Bool.eq_false_iff.mpr c4
  subst c4
  have H1 : (forecourtref09_CheckSign.l0 kj1 l0 0) = some r := by rw [if_neg (show ¬ (false = true) by decide)] at H; exact H
  clear H
  have H := H1
  clear H1
  have H' := Aside0.mk H
  clear H
  go_wp2
  go_loopg [3] kj1 (fun kq v3 w' => ∃ (x3_2 : Int), v3 = .int .i64 x3_2 ∧ Aside0 (forecourtref09_CheckSign.l0 kq l0 x3_2 = some r) ∧ Aside0 (kq ≤ kj1) ∧ Drawn0 w w')
  case atStart => exact ⟨(0), b5_, H', ⟨Nat.le_refl _⟩, b8_⟩
  clear H'
  try clear c1
  try clear c2
  try clear p2
  try clear c3
  try clear c3b0
  try clear c3b1
  try clear c4
  try clear p2
  obtain ⟨x3_2, rfl, HA, HK2, ⟨m2, rfl⟩⟩ := hrel
  cases gk with
  | zero => exact absurd HA.out (by simp [forecourtref09_CheckSign.l0])
  | succ k2 => ?_
  have H := HA.out
  clear HA
  simp only [forecourtref09_CheckSign.l0] at H
  by_cases c5 : x3_2 < (l0.length : Int)
  rotate_left
  · rw [if_neg c5] at H
    have c5b0 : decide (x3_2 < (l0.length : Int)) = false := decide_eq_false c5
    clear c5
    have H' := Aside0.mk H
    clear H
    go_wp2
    go_loopg [4] k2 (fun kq v4 w' => ∃ (x4_3 : Int), v4 = .int .i64 x4_3 ∧ Aside0 (forecourtref09_CheckSign.l1 kq l0 x4_3 = some r) ∧ Aside0 (kq ≤ k2) ∧ Drawn0 w w')
    case atStart => exact ⟨(0), b5_, H', ⟨Nat.le_refl _⟩, b8_⟩
    clear H'
    try clear c1
    try clear c2
    try clear p2
    try clear c3
    try clear c3b0
    try clear c3b1
    try clear p3
    try clear q3
    try clear hx3
    try clear c4
    try clear c5
    try clear c5b0
    try clear c6
    try clear c6b0
    try clear c6b1
    try clear p6
    try clear c7
    try clear c7b0
    try clear c8
    try clear c8b0
    try clear c8b1
    try clear c9
    try clear c9b0
    try clear c11
    try clear c11b0
    try clear c12
    try clear c12b0
    try clear c13
    try clear c13b0
    try clear c14
    try clear c14b0
    try clear c15
    try clear c15b0
    try clear c16
    try clear c16b0
    try clear c17
    try clear c17b0
    try clear c19
    try clear c19b0
    try clear c20
    try clear c20b0
    try clear c21
    try clear c21b0
    try clear c22
    try clear c22b0
    try clear c23
    try clear c23b0
    try clear c24
    try clear c24b0
    try clear hx381_0
    try clear hx381_1
    try clear hx382_0
    try clear hx382_1
    try clear hx383_0
    try clear hx383_1
    try clear hx384_0
    try clear hx384_1
    try clear hx385_0
    try clear hx385_1
    try clear hx386_0
    try clear hx386_1
    try clear hx387_0
    try clear hx387_1
    try clear hx388_0
    try clear hx388_1
    try clear hx389_0
    try clear hx389_1
    try clear p2
    try clear p381
    try clear p382
    try clear p383
    try clear p384
    try clear p385
    try clear p386
    try clear p387
    try clear p388
    try clear p389
    try clear q381
    try clear q382
    try clear q383
    try clear q384
    try clear q385
    try clear q386
    try clear q387
    try clear q388
    try clear q389
    obtain ⟨x4_3, rfl, HA, HK3, ⟨m3, rfl⟩⟩ := hrel
    cases gk with
    | zero => exact absurd HA.out (by simp [forecourtref09_CheckSign.l1])
    | succ k3 => ?_
    have H := HA.out
    clear HA
    simp only [forecourtref09_CheckSign.l1] at H
    by_cases c25 : x4_3 < (l0.length : Int)
    rotate_left
    · rw [if_neg c25] at H
      have c25b0 : decide (x4_3 < (l0.length : Int)) = false := decide_eq_false c25
      clear c25
      obtain rfl := Option.some.inj H
      go_wp2
      go_ret
      exact ⟨b5_, b8_⟩
    rw [if_pos c25] at H
    have c25b0 : decide (x4_3 < (l0.length : Int)) = true := decide_eq_true c25
    clear c25
    by_cases c26 : 0 ≤ x4_3
    rotate_left
    · rw [if_neg c26] at H
      exact absurd H (by simp)
    rw [if_pos c26] at H
    have c26b0 : decide (0 ≤ x4_3) = true := decide_eq_true c26
    clear c26
    by_cases c27 : ((rd_T54 l0 x4_3).f1) < 1
    · rw [if_pos c27] at H
      have c27b0 : decide (((rd_T54 l0 x4_3).f1) < 1) = true := decide_eq_true c27
      clear c27
      obtain rfl := Option.some.inj H
      have p390 : 0 ≤ (x4_3 : Int) := of_decide_eq_true b2_
      have q390 : x4_3 < (l0.length : Int) := of_decide_eq_true b2_
      obtain ⟨ad390, e390, hx390_0, hx390_1⟩ := at_T54 HR0.out x4_3 p390 q390
      cases e390
      replace p390 := eq_true p390
      replace q390 := eq_true q390
      go_wp2
      go_ret
      exact ⟨b5_, b8_⟩
    rw [if_neg c27] at H
    have c27b0 : decide (((rd_T54 l0 x4_3).f1) < 1) = false := decide_eq_false c27
    clear c27
    by_cases c28 : ((rd_T54 l0 x4_3).f1) > 100000
    · rw [if_pos c28] at H
      have c28b0 : decide (100000 < ((rd_T54 l0 x4_3).f1)) = true := decide_eq_true c28
      clear c28
      obtain rfl := Option.some.inj H
      have p390 : 0 ≤ (x4_3 : Int) := of_decide_eq_true b2_
      have q390 : x4_3 < (l0.length : Int) := of_decide_eq_true b2_
      obtain ⟨ad390, e390, hx390_0, hx390_1⟩ := at_T54 HR0.out x4_3 p390 q390
      cases e390
      replace p390 := eq_true p390
      replace q390 := eq_true q390
      have p391 : 0 ≤ (x4_3 : Int) := of_decide_eq_true b2_
      have q391 : x4_3 < (l0.length : Int) := of_decide_eq_true b2_
      obtain ⟨ad391, e391, hx391_0, hx391_1⟩ := at_T54 HR0.out x4_3 p391 q391
      obtain rfl : ad390 = ad391 := (by injection e391)
      replace p391 := eq_true p391
      replace q391 := eq_true q391
      go_wp2
      go_ret
      exact ⟨b5_, b8_⟩
    rw [if_neg c28] at H
    have c28b0 : decide (100000 < ((rd_T54 l0 x4_3).f1)) = false := decide_eq_false c28
    clear c28
    have H' := Aside0.mk H
    clear H
    have p390 : 0 ≤ (x4_3 : Int) := of_decide_eq_true b2_
    have q390 : x4_3 < (l0.length : Int) := of_decide_eq_true b2_
    obtain ⟨ad390, e390, hx390_0, hx390_1⟩ := at_T54 HR0.out x4_3 p390 q390
    cases e390
    replace p390 := eq_true p390
    replace q390 := eq_true q390
    have p391 : 0 ≤ (x4_3 : Int) := of_decide_eq_true b2_
    have q391 : x4_3 < (l0.length : Int) := of_decide_eq_true b2_
    obtain ⟨ad391, e391, hx391_0, hx391_1⟩ := at_T54 HR0.out x4_3 p391 q391
    obtain rfl : ad390 = ad391 := (by injection e391)
    replace p391 := eq_true p391
    replace q391 := eq_true q391
    go_wp2
    go_roundg k3
    case measure => have := HJ1.out; have := HK2.out; have := HK3.out; omega
    case rel => exact ⟨(wrap64 (x4_3 + 1)), b5_, H', ⟨(by have := HJ1.out; have := HK2.out; have := HK3.out; omega)⟩, b8_⟩
  rw [if_pos c5] at H
  have c5b0 : decide (x3_2 < (l0.length : Int)) = true := decide_eq_true c5
  clear c5
  by_cases c6 : x3_2 = 0
  rotate_left
  · rw [if_neg c6] at H
    have c6b0 : (x3_2 == 0) = false := beq_eq_false_iff_ne.mpr c6
    have c6b1 : (x3_2 != 0) = true := bne_iff_ne.mpr c6
    by_cases c16 : x3_2 > 0
    rotate_left
    · rw [if_neg c16] at H
      have c16b0 : decide (0 < x3_2) = false := decide_eq_false c16
      clear c16
      by_cases c23 : 0 ≤ x3_2
      rotate_left
      · rw [if_neg c23] at H
        exact absurd H (by simp)
      rw [if_pos c23] at H
      have c23b0 : decide (0 ≤ x3_2) = true := decide_eq_true c23
      clear c23
      by_cases c24 : ((rd_T54 l0 x3_2).f0) > 2000
      · rw [if_pos c24] at H
        have c24b0 : decide (2000 < ((rd_T54 l0 x3_2).f0)) = true := decide_eq_true c24
        clear c24
        obtain rfl := Option.some.inj H
        have p389 : 0 ≤ (x3_2 : Int) := of_decide_eq_true b2_
        have q389 : x3_2 < (l0.length : Int) := of_decide_eq_true b2_
        obtain ⟨ad389, e389, hx389_0, hx389_1⟩ := at_T54 HR0.out x3_2 p389 q389
        cases e389
        replace p389 := eq_true p389
        replace q389 := eq_true q389
        go_wp2
        repeat (go_quiet (fail); try go_wp2)
        go_ret
        exact ⟨b5_, b8_⟩
      rw [if_neg c24] at H
      have c24b0 : decide (2000 < ((rd_T54 l0 x3_2).f0)) = false := decide_eq_false c24
      clear c24
      have H' := Aside0.mk H
      clear H
      have p389 : 0 ≤ (x3_2 : Int) := of_decide_eq_true b2_
      have q389 : x3_2 < (l0.length : Int) := of_decide_eq_true b2_
      obtain ⟨ad389, e389, hx389_0, hx389_1⟩ := at_T54 HR0.out x3_2 p389 q389
      cases e389
      replace p389 := eq_true p389
      replace q389 := eq_true q389
      go_wp2
      repeat (go_quiet (fail); try go_wp2)
      go_roundg k2
      case measure => have := HJ1.out; have := HK2.out; omega
      case rel => exact ⟨(wrap64 (x3_2 + 1)), b5_, H', ⟨(by have := HJ1.out; have := HK2.out; omega)⟩, b8_⟩
    rw [if_pos c16] at H
    have c16b0 : decide (0 < x3_2) = true := decide_eq_true c16
    clear c16
    by_cases c17 : 0 ≤ x3_2
    rotate_left
    · rw [if_neg c17] at H
      exact absurd H (by simp)
    rw [if_pos c17] at H
    have c17b0 : decide (0 ≤ x3_2) = true := decide_eq_true c17
    clear c17
    obtain ⟨ji18, hji18⟩ : ∃ j_ : Int, (wrap64 (x3_2 - 1)) = j_ := ⟨_, rfl⟩
    replace H : (if 0 ≤ (ji18) then (if (ji18) < (l0.length : Int) then (if ((rd_T54 l0 x3_2).f0) ≤ ((rd_T54 l0 (ji18)).f0) then (some 3) else (if ((rd_T54 l0 x3_2).f0) > 2000 then (some 3) else (forecourtref09_CheckSign.l0 k2 l0 (wrap64 (x3_2 + 1))))) else (none)) else (none)) = some r := by first | (rw [hji18] at H; exact H) | (simp only [hji18] at H ⊢; exact H)
    have hji18w : (IntKind.i64.wrap (x3_2 - 1)) = ji18 := (i64_w _).trans hji18
    by_cases c19 : 0 ≤ (ji18)
    rotate_left
    · rw [if_neg c19] at H
      exact absurd H (by simp)
    rw [if_pos c19] at H
    have c19b0 : decide (0 ≤ (ji18)) = true := decide_eq_true c19
    clear c19
    by_cases c20 : (ji18) < (l0.length : Int)
    rotate_left
    · rw [if_neg c20] at H
      exact absurd H (by simp)
    rw [if_pos c20] at H
    have c20b0 : decide ((ji18) < (l0.length : Int)) = true := decide_eq_true c20
    clear c20
    by_cases c21 : ((rd_T54 l0 x3_2).f0) ≤ ((rd_T54 l0 (ji18)).f0)
    · rw [if_pos c21] at H
      have c21b0 : decide (((rd_T54 l0 x3_2).f0) ≤ ((rd_T54 l0 (ji18)).f0)) = true := decide_eq_true c21
      clear c21
      obtain rfl := Option.some.inj H
      have p386 : 0 ≤ (x3_2 : Int) := of_decide_eq_true b2_
      have q386 : x3_2 < (l0.length : Int) := of_decide_eq_true b2_
      obtain ⟨ad386, e386, hx386_0, hx386_1⟩ := at_T54 HR0.out x3_2 p386 q386
      cases e386
      replace p386 := eq_true p386
      replace q386 := eq_true q386
      have p387 : 0 ≤ ((ji18) : Int) := of_decide_eq_true b2_
      have q387 : (ji18) < (l0.length : Int) := of_decide_eq_true b2_
      obtain ⟨ad387, e387, hx387_0, hx387_1⟩ := at_T54 HR0.out (ji18) p387 q387
      obtain rfl : ad386 = ad387 := (by injection e387)
      replace p387 := eq_true p387
      replace q387 := eq_true q387
      go_wp2
      repeat (go_quiet (fail); try go_wp2)
      go_ret
      exact ⟨(by first | rfl | (simp; done) | (simp only [← hji18] <;> (first | rfl | simp)) | (simp [*]; done)), b8_⟩
    rw [if_neg c21] at H
    have c21b0 : decide (((rd_T54 l0 x3_2).f0) ≤ ((rd_T54 l0 (ji18)).f0)) = false := decide_eq_false c21
    clear c21
    by_cases c22 : ((rd_T54 l0 x3_2).f0) > 2000
    · rw [if_pos c22] at H
      have c22b0 : decide (2000 < ((rd_T54 l0 x3_2).f0)) = true := decide_eq_true c22
      clear c22
      obtain rfl := Option.some.inj H
      have p386 : 0 ≤ (x3_2 : Int) := of_decide_eq_true b2_
      have q386 : x3_2 < (l0.length : Int) := of_decide_eq_true b2_
      obtain ⟨ad386, e386, hx386_0, hx386_1⟩ := at_T54 HR0.out x3_2 p386 q386
      cases e386
      replace p386 := eq_true p386
      replace q386 := eq_true q386
      have p387 : 0 ≤ ((ji18) : Int) := of_decide_eq_true b2_
      have q387 : (ji18) < (l0.length : Int) := of_decide_eq_true b2_
      obtain ⟨ad387, e387, hx387_0, hx387_1⟩ := at_T54 HR0.out (ji18) p387 q387
      obtain rfl : ad386 = ad387 := (by injection e387)
      replace p387 := eq_true p387
      replace q387 := eq_true q387
      have p388 : 0 ≤ (x3_2 : Int) := of_decide_eq_true b2_
      have q388 : x3_2 < (l0.length : Int) := of_decide_eq_true b2_
      obtain ⟨ad388, e388, hx388_0, hx388_1⟩ := at_T54 HR0.out x3_2 p388 q388
      obtain rfl : ad386 = ad388 := (by injection e388)
      replace p388 := eq_true p388
      replace q388 := eq_true q388
      go_wp2
      repeat (go_quiet (fail); try go_wp2)
      go_ret
      exact ⟨(by first | rfl | (simp; done) | (simp only [← hji18] <;> (first | rfl | simp)) | (simp [*]; done)), b8_⟩
    rw [if_neg c22] at H
    have c22b0 : decide (2000 < ((rd_T54 l0 x3_2).f0)) = false := decide_eq_false c22
    clear c22
    have H' := Aside0.mk H
    clear H
    have p386 : 0 ≤ (x3_2 : Int) := of_decide_eq_true b2_
    have q386 : x3_2 < (l0.length : Int) := of_decide_eq_true b2_
    obtain ⟨ad386, e386, hx386_0, hx386_1⟩ := at_T54 HR0.out x3_2 p386 q386
    cases e386
    replace p386 := eq_true p386
    replace q386 := eq_true q386
    have p387 : 0 ≤ ((ji18) : Int) := of_decide_eq_true b2_
    have q387 : (ji18) < (l0.length : Int) := of_decide_eq_true b2_
    obtain ⟨ad387, e387, hx387_0, hx387_1⟩ := at_T54 HR0.out (ji18) p387 q387
    obtain rfl : ad386 = ad387 := (by injection e387)
    replace p387 := eq_true p387
    replace q387 := eq_true q387
    have p388 : 0 ≤ (x3_2 : Int) := of_decide_eq_true b2_
    have q388 : x3_2 < (l0.length : Int) := of_decide_eq_true b2_
    obtain ⟨ad388, e388, hx388_0, hx388_1⟩ := at_T54 HR0.out x3_2 p388 q388
    obtain rfl : ad386 = ad388 := (by injection e388)
    replace p388 := eq_true p388
    replace q388 := eq_true q388
    go_wp2
    repeat (go_quiet (fail); try go_wp2)
    go_roundg k2
    case measure => have := HJ1.out; have := HK2.out; omega
    case rel => exact ⟨(wrap64 (x3_2 + 1)), b5_, H', ⟨(by have := HJ1.out; have := HK2.out; omega)⟩, b8_⟩
  rw [if_pos c6] at H
  have c6b0 : (x3_2 == 0) = true := beq_iff_eq.mpr c6
  have c6b1 : (x3_2 != 0) = false := bne_eq_false_iff_eq.mpr c6
  clear c6
  by_cases c7 : 0 ≤ x3_2
  rotate_left
  · rw [if_neg c7] at H
    exact absurd H (by simp)
  rw [if_pos c7] at H
  have c7b0 : decide (0 ≤ x3_2) = true := decide_eq_true c7
  clear c7
  by_cases c8 : ((rd_T54 l0 x3_2).f0) = 0
  rotate_left
  · rw [if_neg c8] at H
    have c8b0 : (((rd_T54 l0 x3_2).f0) == 0) = false := beq_eq_false_iff_ne.mpr c8
    have c8b1 : (((rd_T54 l0 x3_2).f0) != 0) = true := bne_iff_ne.mpr c8
    obtain rfl := Option.some.inj H
    have p381 : 0 ≤ (x3_2 : Int) := of_decide_eq_true b2_
    have q381 : x3_2 < (l0.length : Int) := of_decide_eq_true b2_
    obtain ⟨ad381, e381, hx381_0, hx381_1⟩ := at_T54 HR0.out x3_2 p381 q381
    cases e381
    replace p381 := eq_true p381
    replace q381 := eq_true q381
    go_wp2
    repeat (go_quiet (fail); try go_wp2)
    go_ret
    exact ⟨b5_, b8_⟩
  rw [if_pos c8] at H
  have c8b0 : (((rd_T54 l0 x3_2).f0) == 0) = true := beq_iff_eq.mpr c8
  have c8b1 : (((rd_T54 l0 x3_2).f0) != 0) = false := bne_eq_false_iff_eq.mpr c8
  clear c8
  by_cases c9 : x3_2 > 0
  rotate_left
  · rw [if_neg c9] at H
    have c9b0 : decide (0 < x3_2) = false := decide_eq_false c9
    clear c9
    by_cases c15 : ((rd_T54 l0 x3_2).f0) > 2000
    · rw [if_pos c15] at H
      have c15b0 : decide (2000 < ((rd_T54 l0 x3_2).f0)) = true := decide_eq_true c15
      clear c15
      obtain rfl := Option.some.inj H
      have p381 : 0 ≤ (x3_2 : Int) := of_decide_eq_true b2_
      have q381 : x3_2 < (l0.length : Int) := of_decide_eq_true b2_
      obtain ⟨ad381, e381, hx381_0, hx381_1⟩ := at_T54 HR0.out x3_2 p381 q381
      cases e381
      replace p381 := eq_true p381
      replace q381 := eq_true q381
      have p385 : 0 ≤ (x3_2 : Int) := of_decide_eq_true b2_
      have q385 : x3_2 < (l0.length : Int) := of_decide_eq_true b2_
      obtain ⟨ad385, e385, hx385_0, hx385_1⟩ := at_T54 HR0.out x3_2 p385 q385
      obtain rfl : ad381 = ad385 := (by injection e385)
      replace p385 := eq_true p385
      replace q385 := eq_true q385
      go_wp2
      repeat (go_quiet (fail); try go_wp2)
      go_ret
      exact ⟨b5_, b8_⟩
    rw [if_neg c15] at H
    have c15b0 : decide (2000 < ((rd_T54 l0 x3_2).f0)) = false := decide_eq_false c15
    clear c15
    have H' := Aside0.mk H
    clear H
    have p381 : 0 ≤ (x3_2 : Int) := of_decide_eq_true b2_
    have q381 : x3_2 < (l0.length : Int) := of_decide_eq_true b2_
    obtain ⟨ad381, e381, hx381_0, hx381_1⟩ := at_T54 HR0.out x3_2 p381 q381
    cases e381
    replace p381 := eq_true p381
    replace q381 := eq_true q381
    have p385 : 0 ≤ (x3_2 : Int) := of_decide_eq_true b2_
    have q385 : x3_2 < (l0.length : Int) := of_decide_eq_true b2_
    obtain ⟨ad385, e385, hx385_0, hx385_1⟩ := at_T54 HR0.out x3_2 p385 q385
    obtain rfl : ad381 = ad385 := (by injection e385)
    replace p385 := eq_true p385
    replace q385 := eq_true q385
    go_wp2
    repeat (go_quiet (fail); try go_wp2)
    go_roundg k2
    case measure => have := HJ1.out; have := HK2.out; omega
    case rel => exact ⟨(wrap64 (x3_2 + 1)), b5_, H', ⟨(by have := HJ1.out; have := HK2.out; omega)⟩, b8_⟩
  rw [if_pos c9] at H
  have c9b0 : decide (0 < x3_2) = true := decide_eq_true c9
  clear c9
  obtain ⟨ji10, hji10⟩ : ∃ j_ : Int, (wrap64 (x3_2 - 1)) = j_ := ⟨_, rfl⟩
  replace H : (if 0 ≤ (ji10) then (if (ji10) < (l0.length : Int) then (if ((rd_T54 l0 x3_2).f0) ≤ ((rd_T54 l0 (ji10)).f0) then (some 3) else (if ((rd_T54 l0 x3_2).f0) > 2000 then (some 3) else (forecourtref09_CheckSign.l0 k2 l0 (wrap64 (x3_2 + 1))))) else (none)) else (none)) = some r := by first | (rw [hji10] at H; exact H) | (simp only [hji10] at H ⊢; exact H)
  have hji10w : (IntKind.i64.wrap (x3_2 - 1)) = ji10 := (i64_w _).trans hji10
  by_cases c11 : 0 ≤ (ji10)
  rotate_left
  · rw [if_neg c11] at H
    exact absurd H (by simp)
  rw [if_pos c11] at H
  have c11b0 : decide (0 ≤ (ji10)) = true := decide_eq_true c11
  clear c11
  by_cases c12 : (ji10) < (l0.length : Int)
  rotate_left
  · rw [if_neg c12] at H
    exact absurd H (by simp)
  rw [if_pos c12] at H
  have c12b0 : decide ((ji10) < (l0.length : Int)) = true := decide_eq_true c12
  clear c12
  by_cases c13 : ((rd_T54 l0 x3_2).f0) ≤ ((rd_T54 l0 (ji10)).f0)
  · rw [if_pos c13] at H
    have c13b0 : decide (((rd_T54 l0 x3_2).f0) ≤ ((rd_T54 l0 (ji10)).f0)) = true := decide_eq_true c13
    clear c13
    obtain rfl := Option.some.inj H
    have p381 : 0 ≤ (x3_2 : Int) := of_decide_eq_true b2_
    have q381 : x3_2 < (l0.length : Int) := of_decide_eq_true b2_
    obtain ⟨ad381, e381, hx381_0, hx381_1⟩ := at_T54 HR0.out x3_2 p381 q381
    cases e381
    replace p381 := eq_true p381
    replace q381 := eq_true q381
    have p382 : 0 ≤ (x3_2 : Int) := of_decide_eq_true b2_
    have q382 : x3_2 < (l0.length : Int) := of_decide_eq_true b2_
    obtain ⟨ad382, e382, hx382_0, hx382_1⟩ := at_T54 HR0.out x3_2 p382 q382
    obtain rfl : ad381 = ad382 := (by injection e382)
    replace p382 := eq_true p382
    replace q382 := eq_true q382
    have p383 : 0 ≤ ((ji10) : Int) := of_decide_eq_true b2_
    have q383 : (ji10) < (l0.length : Int) := of_decide_eq_true b2_
    obtain ⟨ad383, e383, hx383_0, hx383_1⟩ := at_T54 HR0.out (ji10) p383 q383
    obtain rfl : ad381 = ad383 := (by injection e383)
    replace p383 := eq_true p383
    replace q383 := eq_true q383
    go_wp2
    repeat (go_quiet (fail); try go_wp2)
    go_ret
    exact ⟨(by first | rfl | (simp; done) | (simp only [← hji10] <;> (first | rfl | simp)) | (simp [*]; done)), b8_⟩
  rw [if_neg c13] at H
  have c13b0 : decide (((rd_T54 l0 x3_2).f0) ≤ ((rd_T54 l0 (ji10)).f0)) = false := decide_eq_false c13
  clear c13
  by_cases c14 : ((rd_T54 l0 x3_2).f0) > 2000
  · rw [if_pos c14] at H
    have c14b0 : decide (2000 < ((rd_T54 l0 x3_2).f0)) = true := decide_eq_true c14
    clear c14
    obtain rfl := Option.some.inj H
    have p381 : 0 ≤ (x3_2 : Int) := of_decide_eq_true b2_
    have q381 : x3_2 < (l0.length : Int) := of_decide_eq_true b2_
    obtain ⟨ad381, e381, hx381_0, hx381_1⟩ := at_T54 HR0.out x3_2 p381 q381
    cases e381
    replace p381 := eq_true p381
    replace q381 := eq_true q381
    have p382 : 0 ≤ (x3_2 : Int) := of_decide_eq_true b2_
    have q382 : x3_2 < (l0.length : Int) := of_decide_eq_true b2_
    obtain ⟨ad382, e382, hx382_0, hx382_1⟩ := at_T54 HR0.out x3_2 p382 q382
    obtain rfl : ad381 = ad382 := (by injection e382)
    replace p382 := eq_true p382
    replace q382 := eq_true q382
    have p383 : 0 ≤ ((ji10) : Int) := of_decide_eq_true b2_
    have q383 : (ji10) < (l0.length : Int) := of_decide_eq_true b2_
    obtain ⟨ad383, e383, hx383_0, hx383_1⟩ := at_T54 HR0.out (ji10) p383 q383
    obtain rfl : ad381 = ad383 := (by injection e383)
    replace p383 := eq_true p383
    replace q383 := eq_true q383
    have p384 : 0 ≤ (x3_2 : Int) := of_decide_eq_true b2_
    have q384 : x3_2 < (l0.length : Int) := of_decide_eq_true b2_
    obtain ⟨ad384, e384, hx384_0, hx384_1⟩ := at_T54 HR0.out x3_2 p384 q384
    obtain rfl : ad381 = ad384 := (by injection e384)
    replace p384 := eq_true p384
    replace q384 := eq_true q384
    go_wp2
    repeat (go_quiet (fail); try go_wp2)
    go_ret
    exact ⟨(by first | rfl | (simp; done) | (simp only [← hji10] <;> (first | rfl | simp)) | (simp [*]; done)), b8_⟩
  rw [if_neg c14] at H
  have c14b0 : decide (2000 < ((rd_T54 l0 x3_2).f0)) = false := decide_eq_false c14
  clear c14
  have H' := Aside0.mk H
  clear H
  have p381 : 0 ≤ (x3_2 : Int) := of_decide_eq_true b2_
  have q381 : x3_2 < (l0.length : Int) := of_decide_eq_true b2_
  obtain ⟨ad381, e381, hx381_0, hx381_1⟩ := at_T54 HR0.out x3_2 p381 q381
  cases e381
  replace p381 := eq_true p381
  replace q381 := eq_true q381
  have p382 : 0 ≤ (x3_2 : Int) := of_decide_eq_true b2_
  have q382 : x3_2 < (l0.length : Int) := of_decide_eq_true b2_
  obtain ⟨ad382, e382, hx382_0, hx382_1⟩ := at_T54 HR0.out x3_2 p382 q382
  obtain rfl : ad381 = ad382 := (by injection e382)
  replace p382 := eq_true p382
  replace q382 := eq_true q382
  have p383 : 0 ≤ ((ji10) : Int) := of_decide_eq_true b2_
  have q383 : (ji10) < (l0.length : Int) := of_decide_eq_true b2_
  obtain ⟨ad383, e383, hx383_0, hx383_1⟩ := at_T54 HR0.out (ji10) p383 q383
  obtain rfl : ad381 = ad383 := (by injection e383)
  replace p383 := eq_true p383
  replace q383 := eq_true q383
  have p384 : 0 ≤ (x3_2 : Int) := of_decide_eq_true b2_
  have q384 : x3_2 < (l0.length : Int) := of_decide_eq_true b2_
  obtain ⟨ad384, e384, hx384_0, hx384_1⟩ := at_T54 HR0.out x3_2 p384 q384
  obtain rfl : ad381 = ad384 := (by injection e384)
  replace p384 := eq_true p384
  replace q384 := eq_true q384
  go_wp2
  repeat (go_quiet (fail); try go_wp2)
  go_roundg k2
  case measure => have := HJ1.out; have := HK2.out; omega
  case rel => exact ⟨(wrap64 (x3_2 + 1)), b5_, H', ⟨(by have := HJ1.out; have := HK2.out; omega)⟩, b8_⟩

end Go.Proofs.Ytcgdbjojjpoegaa.P

namespace Go.Proofs.Ytcgdbjojjpoegaa.P
open Go.RowKit Go.Proofs.YtcgdbjojjpoegaaW.PrintWords Go.Proofs.YtcgdbjojjpoegaaW.PrintLast Go.Proofs.YtcgdbjojjpoegaaW.PrintMore
attribute [local go_sem] max2_int min2_int max_two min_two max_three min_three max_four min_four   -- for this text's walks alone
set_option linter.unusedVariables false
set_option linter.unusedSimpArgs false

/-! ### forecourtref09_At: function 36 -/
def forecourtref09_At.l0 : Nat → List (S54) → Int → Int → Int → Option (Int)
  | 0, _, _, _, _ => none
  | k + 1, x0, x1, x5, x6 => if x6 < (x0.length : Int) then (if 0 ≤ x6 then (if ((rd_T54 x0 x6).f0) ≤ x1 then (forecourtref09_At.l0 k x0 x1 ((rd_T54 x0 x6).f1) (wrap64 (x6 + 1))) else (forecourtref09_At.l0 k x0 x1 x5 (wrap64 (x6 + 1)))) else (none)) else (some x5)
def forecourtref09_At.f (k : Nat) (l0 : List (S54)) (a1 : Int) : Option (Int) := if 0 < (l0.length : Int) then (forecourtref09_At.l0 k l0 a1 ((rd_T54 l0 0).f1) 0) else (none)
set_option maxHeartbeats 8000000 in
set_option maxRecDepth 100000 in
theorem forecourtref09_At.calls (k : Nat) (A0 : Option Addr) (c0 : Nat) (l0 : List (S54)) (a1 : Int) (r : Int) (w : World) (hr0 : Kd.C k54 w A0 l0.length l0) (hc0 : l0.length ≤ c0) (h : forecourtref09_At.f k l0 a1 = some r) :
    Calls Try.prog 36 #[.slice A0 l0.length c0, .int .i64 a1] w fun e w' => e = .returned (.int .i64 r) ∧ Drawn0 w w' := by
  have HR0 := Aside0.mk hr0
  have HC0 := Aside0.mk hc0
  clear hr0 hc0
  have H : (if 0 < (l0.length : Int) then (forecourtref09_At.l0 k l0 a1 ((rd_T54 l0 0).f1) 0) else (none)) = some r := h
  clear h
  by_cases c3 : 0 < (l0.length : Int)
  rotate_left
  · rw [if_neg c3] at H
    exact absurd H (by simp)
  rw [if_pos c3] at H
  have c3b0 : decide (0 < (l0.length : Int)) = true := decide_eq_true c3
  have c3b1 : decide (0 < l0.length) = true := decide_eq_true (by omega)
  clear c3
  have H' := Aside0.mk H
  clear H
  have p392 : 0 ≤ (0 : Int) := (by omega)
  have q392 : 0 < (l0.length : Int) := of_decide_eq_true b2_
  obtain ⟨ad392, e392, hx392_0, hx392_1⟩ := at_T54 HR0.out 0 p392 q392
  cases e392
  have qi392 : (0 < l0.length) = True := eq_true (by omega)
  (try rw [show ((0 : Int)).toNat = 0 from rfl] at hx392_0)
  (try rw [show 0 * 2 = 0 from rfl] at hx392_0)
  (try rw [Addr.add_zero'] at hx392_0)
  (try rw [show ((0 : Int)).toNat = 0 from rfl] at hx392_1)
  (try rw [show 0 * 2 = 0 from rfl] at hx392_1)
  (try rw [Addr.add_zero'] at hx392_1)
  replace p392 := eq_true p392
  replace q392 := eq_true q392
  go_enter Try.func36, Try.ntmps36
  go_wp2
  go_loopg [5, 6] k (fun kq v5 v6 w' => ∃ (x5_1 : Int) (x6_1 : Int), v5 = .int .i64 x5_1 ∧ v6 = .int .i64 x6_1 ∧ Aside0 (forecourtref09_At.l0 kq l0 a1 x5_1 x6_1 = some r) ∧ Aside0 (kq ≤ k) ∧ Drawn0 w w')
  case atStart => exact ⟨((rd_T54 l0 0).f1), (0), b5_, b5_, H', ⟨Nat.le_refl _⟩, b8_⟩
  clear H'
  try clear p2
  try clear c3
  try clear c3b0
  try clear c3b1
  try clear p3
  try clear q3
  try clear hx3
  try clear qi3
  try clear hx392_0
  try clear hx392_1
  try clear p392
  try clear q392
  obtain ⟨x5_1, x6_1, rfl, rfl, HA, HK1, ⟨m1, rfl⟩⟩ := hrel
  cases gk with
  | zero => exact absurd HA.out (by simp [forecourtref09_At.l0])
  | succ k1 => ?_
  have H := HA.out
  clear HA
  simp only [forecourtref09_At.l0] at H
  by_cases c4 : x6_1 < (l0.length : Int)
  rotate_left
  · rw [if_neg c4] at H
    have c4b0 : decide (x6_1 < (l0.length : Int)) = false := decide_eq_false c4
    clear c4
    obtain rfl := Option.some.inj H
    go_wp2
    go_ret
    exact ⟨b5_, b8_⟩
  rw [if_pos c4] at H
  have c4b0 : decide (x6_1 < (l0.length : Int)) = true := decide_eq_true c4
  clear c4
  by_cases c5 : 0 ≤ x6_1
  rotate_left
  · rw [if_neg c5] at H
    exact absurd H (by simp)
  rw [if_pos c5] at H
  have c5b0 : decide (0 ≤ x6_1) = true := decide_eq_true c5
  clear c5
  by_cases c6 : ((rd_T54 l0 x6_1).f0) ≤ a1
  rotate_left
  · rw [if_neg c6] at H
    have c6b0 : decide (((rd_T54 l0 x6_1).f0) ≤ a1) = false := decide_eq_false c6
    clear c6
    have H' := Aside0.mk H
    clear H
    have p393 : 0 ≤ (x6_1 : Int) := of_decide_eq_true b2_
    have q393 : x6_1 < (l0.length : Int) := of_decide_eq_true b2_
    obtain ⟨ad393, e393, hx393_0, hx393_1⟩ := at_T54 HR0.out x6_1 p393 q393
    obtain rfl : ad392 = ad393 := (by injection e393)
    replace p393 := eq_true p393
    replace q393 := eq_true q393
    go_wp2
    go_roundg k1
    case measure => have := HK1.out; omega
    case rel => exact ⟨(x5_1), (wrap64 (x6_1 + 1)), b5_, b5_, H', ⟨(by have := HK1.out; omega)⟩, b8_⟩
  rw [if_pos c6] at H
  have c6b0 : decide (((rd_T54 l0 x6_1).f0) ≤ a1) = true := decide_eq_true c6
  clear c6
  have H' := Aside0.mk H
  clear H
  have p393 : 0 ≤ (x6_1 : Int) := of_decide_eq_true b2_
  have q393 : x6_1 < (l0.length : Int) := of_decide_eq_true b2_
  obtain ⟨ad393, e393, hx393_0, hx393_1⟩ := at_T54 HR0.out x6_1 p393 q393
  obtain rfl : ad392 = ad393 := (by injection e393)
  replace p393 := eq_true p393
  replace q393 := eq_true q393
  have p394 : 0 ≤ (x6_1 : Int) := of_decide_eq_true b2_
  have q394 : x6_1 < (l0.length : Int) := of_decide_eq_true b2_
  obtain ⟨ad394, e394, hx394_0, hx394_1⟩ := at_T54 HR0.out x6_1 p394 q394
  obtain rfl : ad392 = ad394 := (by injection e394)
  replace p394 := eq_true p394
  replace q394 := eq_true q394
  go_wp2
  go_roundg k1
  case measure => have := HK1.out; omega
  case rel => exact ⟨((rd_T54 l0 x6_1).f1), (wrap64 (x6_1 + 1)), b5_, b5_, H', ⟨(by have := HK1.out; omega)⟩, b8_⟩

end Go.Proofs.Ytcgdbjojjpoegaa.P

namespace Go.Proofs.Ytcgdbjojjpoegaa.P
open Go.RowKit Go.Proofs.YtcgdbjojjpoegaaW.PrintWords Go.Proofs.YtcgdbjojjpoegaaW.PrintLast Go.Proofs.YtcgdbjojjpoegaaW.PrintMore
attribute [local go_sem] max2_int min2_int max_two min_two max_three min_three max_four min_four   -- for this text's walks alone
set_option linter.unusedVariables false
set_option linter.unusedSimpArgs false

/-! ### forecourtref09_Price: function 17 -/
def forecourtref09_Price.f (k : Nat) (l0 : List (S54)) (a1 : Int) : Option (Int × Int) := (forecourtref09_CheckSign.f k l0).bind fun t395 => (if t395 = 0 then (if a1 < 0 then (some (0, 3)) else (if a1 > 2000 then (some (0, 3)) else ((forecourtref09_At.f k l0 a1).bind fun t396 => (some (t396, 0))))) else ((forecourtref09_CheckSign.f k l0).bind fun t397 => (some (0, t397))))
set_option maxHeartbeats 8000000 in
set_option maxRecDepth 100000 in
theorem forecourtref09_Price.calls (k : Nat) (A0 : Option Addr) (c0 : Nat) (l0 : List (S54)) (a1 : Int) (r1 : Int) (r2 : Int) (w : World) (hr0 : Kd.C k54 w A0 l0.length l0) (hc0 : l0.length ≤ c0) (h : forecourtref09_Price.f k l0 a1 = some (r1, r2)) :
    Calls Try.prog 17 #[.slice A0 l0.length c0, .int .i64 a1] w fun e w' => e = .returned (.tuple #[.int .i64 r1, .int .i64 r2]) ∧ Drawn0 w w' := by
  have HR0 := Aside0.mk hr0
  have HC0 := Aside0.mk hc0
  clear hr0 hc0
  have H : ((forecourtref09_CheckSign.f k l0).bind fun t395 => (if t395 = 0 then (if a1 < 0 then (some (0, 3)) else (if a1 > 2000 then (some (0, 3)) else ((forecourtref09_At.f k l0 a1).bind fun t396 => (some (t396, 0))))) else ((forecourtref09_CheckSign.f k l0).bind fun t397 => (some (0, t397))))) = some (r1, r2) := h
  clear h
  replace H := Option.bind_eq_some_iff.mp H
  obtain ⟨t395, A30, H⟩ := H
  replace H : (if t395 = 0 then (if a1 < 0 then (some (0, 3)) else (if a1 > 2000 then (some (0, 3)) else ((forecourtref09_At.f k l0 a1).bind fun t396 => (some (t396, 0))))) else ((forecourtref09_CheckSign.f k l0).bind fun t397 => (some (0, t397)))) = some (r1, r2) := H
  have A3 := Aside0.mk A30
  clear A30
  by_cases c4 : t395 = 0
  rotate_left
  · rw [if_neg c4] at H
    have c4b0 : (t395 == 0) = false := beq_eq_false_iff_ne.mpr c4
    have c4b1 : (t395 != 0) = true := bne_iff_ne.mpr c4
    replace H := Option.bind_eq_some_iff.mp H
    obtain ⟨t397, A80, H⟩ := H
    have H_EQ := Aside0.mk (show t395 = t397 from Option.some.inj (A3.out.symm.trans A80))
    replace H : (some (0, t397)) = some (r1, r2) := H
    have A8 := Aside0.mk A80
    clear A80
    simp only [Option.some.injEq, Prod.mk.injEq] at H
    obtain ⟨rfl, rfl⟩ := H
    go_enter Try.func17, Try.ntmps17
    go_wp2_with (first | ((with_reducible refine gate_callee (f := 21) rfl ?_); refine goesL_ (some 7) rfl rfl Try.func21 (by kernel_rfl) rfl #[.slice A0 l0.length c0] rfl b3_ ?_; (with_reducible refine (forecourtref09_CheckSign.calls k _ _ l0 t395 _ ?side1 ?side2 A3.out).mono ?_); (case side1 => repeat (first | exact HR0.out | (with_reducible refine Kd.C_alloc ?_ _) | (with_reducible refine Kd.C_drewN ?_ _) | (with_reducible refine Kd.C_drew ?_))); (case side2 => exact HC0.out); rintro e w' ⟨rfl, ⟨nd, rfl⟩⟩; refine ⟨_, rfl, ?_⟩) | ((with_reducible refine gate_callee (f := 21) rfl ?_); refine goesL_ (some 10) rfl rfl Try.func21 (by kernel_rfl) rfl #[.slice A0 l0.length c0] rfl b3_ ?_; (with_reducible refine (forecourtref09_CheckSign.calls k _ _ l0 t397 _ ?side1 ?side2 A8.out).mono ?_); (case side1 => repeat (first | exact HR0.out | (with_reducible refine Kd.C_alloc ?_ _) | (with_reducible refine Kd.C_drewN ?_ _) | (with_reducible refine Kd.C_drew ?_))); (case side2 => exact HC0.out); rintro e w' ⟨rfl, ⟨nd, rfl⟩⟩; refine ⟨_, rfl, ?_⟩))
    go_ret2
    obtain rfl := H_EQ.out
    exact ⟨b5_, b8_⟩
  rw [if_pos c4] at H
  have c4b0 : (t395 == 0) = true := beq_iff_eq.mpr c4
  have c4b1 : (t395 != 0) = false := bne_eq_false_iff_eq.mpr c4
  clear c4
  by_cases c5 : a1 < 0
  · rw [if_pos c5] at H
    have c5b0 : decide (a1 < 0) = true := decide_eq_true c5
    clear c5
    simp only [Option.some.injEq, Prod.mk.injEq] at H
    obtain ⟨rfl, rfl⟩ := H
    go_enter Try.func17, Try.ntmps17
    go_wp2_with (first | ((with_reducible refine gate_callee (f := 21) rfl ?_); refine goesL_ (some 7) rfl rfl Try.func21 (by kernel_rfl) rfl #[.slice A0 l0.length c0] rfl b3_ ?_; (with_reducible refine (forecourtref09_CheckSign.calls k _ _ l0 t395 _ ?side1 ?side2 A3.out).mono ?_); (case side1 => repeat (first | exact HR0.out | (with_reducible refine Kd.C_alloc ?_ _) | (with_reducible refine Kd.C_drewN ?_ _) | (with_reducible refine Kd.C_drew ?_))); (case side2 => exact HC0.out); rintro e w' ⟨rfl, ⟨nd, rfl⟩⟩; refine ⟨_, rfl, ?_⟩))
    go_ret2
    exact ⟨b5_, b8_⟩
  rw [if_neg c5] at H
  have c5b0 : decide (a1 < 0) = false := decide_eq_false c5
  clear c5
  by_cases c6 : a1 > 2000
  · rw [if_pos c6] at H
    have c6b0 : decide (2000 < a1) = true := decide_eq_true c6
    clear c6
    simp only [Option.some.injEq, Prod.mk.injEq] at H
    obtain ⟨rfl, rfl⟩ := H
    go_enter Try.func17, Try.ntmps17
    go_wp2_with (first | ((with_reducible refine gate_callee (f := 21) rfl ?_); refine goesL_ (some 7) rfl rfl Try.func21 (by kernel_rfl) rfl #[.slice A0 l0.length c0] rfl b3_ ?_; (with_reducible refine (forecourtref09_CheckSign.calls k _ _ l0 t395 _ ?side1 ?side2 A3.out).mono ?_); (case side1 => repeat (first | exact HR0.out | (with_reducible refine Kd.C_alloc ?_ _) | (with_reducible refine Kd.C_drewN ?_ _) | (with_reducible refine Kd.C_drew ?_))); (case side2 => exact HC0.out); rintro e w' ⟨rfl, ⟨nd, rfl⟩⟩; refine ⟨_, rfl, ?_⟩))
    go_ret2
    exact ⟨b5_, b8_⟩
  rw [if_neg c6] at H
  have c6b0 : decide (2000 < a1) = false := decide_eq_false c6
  clear c6
  replace H := Option.bind_eq_some_iff.mp H
  obtain ⟨t396, A70, H⟩ := H
  replace H : (some (t396, 0)) = some (r1, r2) := H
  have A7 := Aside0.mk A70
  clear A70
  simp only [Option.some.injEq, Prod.mk.injEq] at H
  obtain ⟨rfl, rfl⟩ := H
  go_enter Try.func17, Try.ntmps17
  go_wp2_with (first | ((with_reducible refine gate_callee (f := 21) rfl ?_); refine goesL_ (some 7) rfl rfl Try.func21 (by kernel_rfl) rfl #[.slice A0 l0.length c0] rfl b3_ ?_; (with_reducible refine (forecourtref09_CheckSign.calls k _ _ l0 t395 _ ?side1 ?side2 A3.out).mono ?_); (case side1 => repeat (first | exact HR0.out | (with_reducible refine Kd.C_alloc ?_ _) | (with_reducible refine Kd.C_drewN ?_ _) | (with_reducible refine Kd.C_drew ?_))); (case side2 => exact HC0.out); rintro e w' ⟨rfl, ⟨nd, rfl⟩⟩; refine ⟨_, rfl, ?_⟩) | ((with_reducible refine gate_callee (f := 36) rfl ?_); refine goesL_ (some 19) rfl rfl Try.func36 (by kernel_rfl) rfl #[.slice A0 l0.length c0, .int .i64 a1] rfl b3_ ?_; (with_reducible refine (forecourtref09_At.calls k _ _ l0 a1 t396 _ ?side1 ?side2 A7.out).mono ?_); (case side1 => repeat (first | exact HR0.out | (with_reducible refine Kd.C_alloc ?_ _) | (with_reducible refine Kd.C_drewN ?_ _) | (with_reducible refine Kd.C_drew ?_))); (case side2 => exact HC0.out); rintro e w' ⟨rfl, ⟨nd, rfl⟩⟩; refine ⟨_, rfl, ?_⟩))
  go_ret2
  exact ⟨b5_, b8_⟩

end Go.Proofs.Ytcgdbjojjpoegaa.P

namespace Go.Proofs.Ytcgdbjojjpoegaa.P
open Go.RowKit Go.Proofs.YtcgdbjojjpoegaaW.PrintWords Go.Proofs.YtcgdbjojjpoegaaW.PrintLast Go.Proofs.YtcgdbjojjpoegaaW.PrintMore
set_option linter.unusedVariables false
set_option linter.unusedSimpArgs false

theorem wrap_ok (x : Int) (h0 : -9223372036854775808 ≤ x) (h1 : x ≤ 9223372036854775807) : wrap64 x = x := by
  unfold wrap64
  omega
theorem wrap_next (i : Nat) (h : i ≤ 1000000000) : wrap64 ((i : Int) + 1) = ((i + 1 : Nat) : Int) := by
  rw [wrap_ok] <;> omega
theorem wrap_back (i : Nat) (h : i ≤ 1000000000) : wrap64 (((i + 1 : Nat) : Int) - 1) = (i : Int) := by
  rw [wrap_ok] <;> omega
theorem rdP (l : List S54) (i : Nat) (h : i < l.length) : rd_T54 l (i : Int) = l[i] := by simp [rd_T54, List.getD, h]
theorem badPrice_iff (p : S54) : badPrice p = true ↔ p.f1 < 1 ∨ 100000 < p.f1 := by
  unfold badPrice withinB
  simp only [List.all_cons, List.all_nil, Bool.and_true, Bool.not_eq_true', Bool.and_eq_false_iff, decide_eq_false_iff_not]
  omega
theorem cs_l1 (l : List S54) (hl : l.length ≤ 1000) : ∀ (k i : Nat), l.length < k + i → i ≤ l.length → forecourtref09_CheckSign.l1 k l (i : Int) = some (if (l.drop i).any badPrice then 22 else 0)
  | 0, i, h, hi => by omega
  | k + 1, i, h, hi => by
    unfold forecourtref09_CheckSign.l1
    by_cases hlt : i < l.length
    · have e : l.drop i = l[i] :: l.drop (i + 1) := List.drop_eq_getElem_cons hlt
      rw [if_pos (by omega), if_pos (by omega), wrap_next i (by omega), cs_l1 l hl k (i + 1) (by omega) (by omega), rdP l i hlt, e, List.any_cons]
      by_cases hb : l[i].f1 < 1 ∨ 100000 < l[i].f1
      · rw [(badPrice_iff _).2 hb, Bool.true_or, if_pos rfl]
        rcases hb with hb | hb
        · rw [if_pos hb]
        · by_cases h1 : l[i].f1 < 1
          · rw [if_pos h1]
          · rw [if_neg h1, if_pos (by omega)]
      · have hb' : badPrice l[i] = false := by
          cases h9 : badPrice l[i] with
          | false => rfl
          | true => exact absurd ((badPrice_iff _).1 h9) hb
        rw [hb', Bool.false_or, if_neg (by omega), if_neg (by omega)]
    · have : i = l.length := by omega
      rw [if_neg (by omega), this, List.drop_length]
      rfl
theorem cs_l0s (l : List S54) (hl : l.length ≤ 1000) : ∀ (k j : Nat) (hj : j < l.length), 2 * l.length + 2 ≤ k + (j + 1) → forecourtref09_CheckSign.l0 k l ((j + 1 : Nat) : Int) = some (if badFrom false (l[j].f0 + 1) (l.drop (j + 1)) then 3 else if l.any badPrice then 22 else 0)
  | 0, j, hj, h => by omega
  | k + 1, j, hj, h => by
    unfold forecourtref09_CheckSign.l0
    by_cases hlt : j + 1 < l.length
    · have e : l.drop (j + 1) = l[j + 1] :: l.drop (j + 1 + 1) := List.drop_eq_getElem_cons hlt
      rw [if_pos (by omega), if_neg (by omega), if_pos (by omega), if_pos (by omega), wrap_next (j + 1) (by omega), wrap_back j (by omega), cs_l0s l hl k (j + 1) hlt (by omega), rdP l (j + 1) hlt, rdP l j hj, e, badFrom, Bool.false_and, Bool.or_false]
      rw [if_pos (by omega), if_pos (by omega)]
      by_cases h1 : l[j + 1].f0 ≤ l[j].f0
      · rw [if_pos h1, show decide (l[j + 1].f0 < l[j].f0 + 1) = true from decide_eq_true (by omega)]
        rfl
      · rw [if_neg h1, show decide (l[j + 1].f0 < l[j].f0 + 1) = false from decide_eq_false (by omega), Bool.false_or]
        by_cases h2 : l[j + 1].f0 > 2000
        · rw [if_pos h2, show decide (2000 < l[j + 1].f0) = true from decide_eq_true h2]
          rfl
        · rw [if_neg h2, show decide (2000 < l[j + 1].f0) = false from decide_eq_false (by omega), Bool.false_or]
    · have : j + 1 = l.length := by omega
      have h1 := cs_l1 l hl k 0 (by omega) (by omega)
      rw [List.drop_zero] at h1
      rw [if_neg (by omega), this, List.drop_length]
      exact h1
theorem refCS (l : List S54) (k : Nat) (hk : 100 ≤ k) : forecourtref09_CheckSign.f k l = some (signE l) := by
  obtain ⟨k, rfl⟩ : ∃ j, k = j + 2 := ⟨k - 2, (by omega)⟩
  unfold forecourtref09_CheckSign.f signE
  by_cases h0 : (l.length : Int) < 1
  · rw [if_pos h0, forecourtref09_CheckSign.j0, if_pos rfl, if_pos (by omega)]
  rw [if_neg h0, forecourtref09_CheckSign.j0]
  by_cases h1 : (l.length : Int) > 30
  · rw [if_pos (decide_eq_true h1), if_pos (by omega)]
  rw [if_neg (by simpa using h1), if_neg (by omega)]
  have hlt : 0 < l.length := by omega
  unfold forecourtref09_CheckSign.l0
  have e : l.drop 0 = l[0] :: l.drop (0 + 1) := List.drop_eq_getElem_cons hlt
  rw [List.drop_zero] at e
  have h2 := cs_l0s l (by omega) k 0 hlt (by omega)
  have r0 : rd_T54 l 0 = l[0] := rdP l 0 hlt
  have hw : wrap64 (0 + 1) = ((0 + 1 : Nat) : Int) := wrap_next 0 (by omega)
  have hbad : badFrom true 0 l = (decide (l[0].f0 < 0) || (true && decide (0 < l[0].f0)) || decide (2000 < l[0].f0) || badFrom false (l[0].f0 + 1) (l.drop (0 + 1))) := by
    conv => lhs; rw [e]
    rfl
  rw [if_pos (by omega), if_pos rfl, if_pos (by omega), hw, h2, show rd_T54 l 0 = l[0] from r0, hbad]
  by_cases h3 : l[0].f0 = 0
  · rw [if_pos h3, if_neg (by omega), if_neg (by omega), show decide (l[0].f0 < 0) = false from decide_eq_false (by omega), show decide (0 < l[0].f0) = false from decide_eq_false (by omega), show decide (2000 < l[0].f0) = false from decide_eq_false (by omega)]
    rfl
  rw [if_neg h3]
  by_cases h4 : l[0].f0 < 0
  · rw [show decide (l[0].f0 < 0) = true from decide_eq_true h4]
    rfl
  rw [show decide (l[0].f0 < 0) = false from decide_eq_false h4, show decide (0 < l[0].f0) = true from decide_eq_true (by omega)]
  rfl
/-- which price stands at a minute -/
structure AtI (l : List S54) (m : Int) (j : Nat) : Prop where
  lt : j < l.length
  le : j = 0 ∨ (rd_T54 l j).f0 ≤ m
  gt : ∀ i : Nat, j < i → i < l.length → m < (rd_T54 l i).f0
theorem pole_at_l0 (l : List S54) (m : Int) (hl : l.length ≤ 1000) : ∀ (k i : Nat), i < k → i < l.length → (∀ n : Nat, i < n → n < l.length → m < (rd_T54 l n).f0) → ∃ j : Nat, pole_at.l0 k l m (i : Int) = some (j : Int) ∧ AtI l m j
  | 0, i, h, hi, _ => by omega
  | k + 1, i, h, hi, hg => by
    unfold pole_at.l0
    cases i with
    | zero => exact ⟨0, (by rw [if_neg (by omega)]), hi, .inl rfl, hg⟩
    | succ i =>
      rw [if_pos (by omega), if_pos (by omega), if_pos (by omega)]
      by_cases h1 : (rd_T54 l ((i + 1 : Nat) : Int)).f0 > m
      · rw [if_pos h1, wrap_back i (by omega)]
        exact pole_at_l0 l m hl k i (by omega) (by omega) fun n hn hn' => by
          rcases Nat.lt_or_ge (i + 1) n with h2 | h2
          · exact hg n h2 hn'
          · have : n = i + 1 := by omega
            subst this
            exact h1
      · rw [if_neg h1]
        exact ⟨i + 1, rfl, hi, .inr (by omega), hg⟩
theorem AtI.uniq {l : List S54} {m : Int} {i j : Nat} (h : AtI l m i) (h' : AtI l m j) : i = j := by
  rcases Nat.lt_trichotomy i j with h1 | h1 | h1
  · have := h.gt j h1 h'.lt
    rcases h'.le with h2 | h2 <;> omega
  · exact h1
  have := h'.gt i h1 h.lt
  rcases h.le with h2 | h2 <;> omega
theorem at_ex (l : List S54) (m : Int) (h : 0 < l.length) (hl : l.length ≤ 30) : ∃ j, AtI l m j ∧ ∀ k, 40 ≤ k → pole_at.f k l m = some (j : Int) := by
  have hw : wrap64 ((l.length : Int) - 1) = ((l.length - 1 : Nat) : Int) := by rw [wrap_ok] <;> omega
  obtain ⟨j, h1, h2⟩ := pole_at_l0 l m (by omega) 40 (l.length - 1) (by omega) (by omega) (fun n hn hn' => by omega)
  refine ⟨j, h2, fun k hk => ?_⟩
  obtain ⟨j', h3, h4⟩ := pole_at_l0 l m (by omega) k (l.length - 1) (by omega) (by omega) (fun n hn hn' => by omega)
  unfold pole_at.f
  rw [hw, h3, h4.uniq h2]
theorem pole_at_eq {l : List S54} {m : Int} {j : Nat} (h : AtI l m j) (hl : l.length ≤ 30) (k : Nat) (hk : 40 ≤ k) : pole_at.f k l m = some (j : Int) := by
  obtain ⟨j', h1, h2⟩ := at_ex l m (Nat.lt_of_le_of_lt (Nat.zero_le _) h.lt) hl
  rw [h2 k hk, h1.uniq h]
theorem ref_at_l0 {l : List S54} {m : Int} {j : Nat} (h : AtI l m j) (hl : l.length ≤ 1000) : ∀ (k i : Nat) (acc : Int), l.length < k + i → i ≤ l.length → forecourtref09_At.l0 k l m acc (i : Int) = some (if i ≤ j then (if (rd_T54 l j).f0 ≤ m then (rd_T54 l j).f1 else acc) else acc)
  | 0, i, acc, h1, hi => by omega
  | k + 1, i, acc, h1, hi => by
    unfold forecourtref09_At.l0
    by_cases hlt : i < l.length
    · rw [if_pos (by omega), if_pos (by omega), wrap_next i (by omega), ref_at_l0 h hl k (i + 1) _ (by omega) (by omega), ref_at_l0 h hl k (i + 1) _ (by omega) (by omega)]
      rcases Nat.lt_trichotomy i j with h2 | h2 | h2
      · rw [if_pos (show i + 1 ≤ j by omega), if_pos (show i + 1 ≤ j by omega), if_pos (show i ≤ j by omega)]
        have h3 : (rd_T54 l (j : Int)).f0 ≤ m := by rcases h.le with h4 | h4; omega; exact h4
        simp only [if_pos h3]
        split <;> rfl
      · subst h2
        rw [if_neg (show ¬ (i + 1 ≤ i) by omega), if_neg (show ¬ (i + 1 ≤ i) by omega), if_pos (show i ≤ i by omega)]
        split <;> rfl
      · rw [if_neg (show ¬ (i + 1 ≤ j) by omega), if_neg (show ¬ (i + 1 ≤ j) by omega), if_neg (show ¬ (i ≤ j) by omega), if_neg (by have := h.gt i h2 hlt; omega)]
    · rw [if_neg (by omega), if_neg (by have := h.lt; omega)]
theorem ref_at_eq {l : List S54} {m : Int} {j : Nat} (h : AtI l m j) (hl : l.length ≤ 30) (k : Nat) (hk : 40 ≤ k) : forecourtref09_At.f k l m = some (rd_T54 l j).f1 := by
  unfold forecourtref09_At.f
  have h0 := ref_at_l0 h (by omega) k 0 (rd_T54 l 0).f1 (by omega) (by omega)
  have hlt := h.lt
  rw [if_pos (by omega)]
  refine h0.trans ?_
  rw [if_pos (by omega)]
  rcases h.le with h2 | h2
  · subst h2
    split <;> rfl
  rw [if_pos h2]
/-- A sign that is valid. -/
structure Sign (l : List S54) : Prop where
  pos : 0 < l.length
  le : l.length ≤ 30
  z : (rd_T54 l 0).f0 = 0
  up : ∀ i : Nat, i + 1 < l.length → (rd_T54 l i).f0 < (rd_T54 l ((i + 1 : Nat) : Int)).f0
  max : ∀ i : Nat, i < l.length → (rd_T54 l i).f0 ≤ 2000
  p1 : ∀ i : Nat, i < l.length → 1 ≤ (rd_T54 l i).f1 ∧ (rd_T54 l i).f1 ≤ 100000
theorem badFrom_up (l : List S54) : ∀ (j : Nat) (hj : j < l.length), badFrom false (l[j].f0 + 1) (l.drop (j + 1)) = false → ∀ i : Nat, j ≤ i → (h : i + 1 < l.length) → l[i].f0 < l[i + 1].f0 ∧ l[i + 1].f0 ≤ 2000 := by
  intro j hj hb i hi h
  induction hn : i - j generalizing j with
  | zero =>
    have : i = j := by omega
    subst this
    rw [List.drop_eq_getElem_cons h, badFrom] at hb
    simp only [Bool.or_eq_false_iff, decide_eq_false_iff_not] at hb
    omega
  | succ n ih =>
    have h' : j + 1 < l.length := by omega
    rw [List.drop_eq_getElem_cons h', badFrom] at hb
    simp only [Bool.or_eq_false_iff] at hb
    exact ih (j + 1) h' hb.2 (by omega) (by omega)
theorem signE_sign {l : List S54} (h : signE l = 0) : Sign l := by
  unfold signE at h
  split at h
  · omega
  rename_i h0
  split at h
  · omega
  rename_i h1
  split at h
  · omega
  rename_i h2
  have hlt : 0 < l.length := by omega
  have e : l.drop 0 = l[0] :: l.drop (0 + 1) := List.drop_eq_getElem_cons hlt
  rw [List.drop_zero] at e
  have hbad : badFrom true 0 l = (decide (l[0].f0 < 0) || (true && decide (0 < l[0].f0)) || decide (2000 < l[0].f0) || badFrom false (l[0].f0 + 1) (l.drop (0 + 1))) := by
    conv => lhs; rw [e]
    rfl
  rw [hbad] at h1
  simp only [Bool.not_eq_true, Bool.or_eq_false_iff, Bool.true_and, decide_eq_false_iff_not] at h1
  have hup := badFrom_up l 0 hlt h1.2
  have z0 : rd_T54 l 0 = l[0] := rdP l 0 hlt
  refine ⟨hlt, (by omega), (by rw [z0]; omega), fun i hi => ?_, fun i hi => ?_, fun i hi => ?_⟩
  · rw [rdP l i (by omega), rdP l (i + 1) hi]
    exact (hup i (Nat.zero_le _) hi).1
  · rw [rdP l i hi]
    cases i with
    | zero => omega
    | succ i => exact (hup i (Nat.zero_le _) hi).2
  rw [rdP l i hi]
  have h3 : ¬ badPrice l[i] = true := fun h4 => h2 (List.any_eq_true.2 ⟨_, List.getElem_mem hi, h4⟩)
  rw [badPrice_iff] at h3
  omega
theorem Sign.lt {l : List S54} (h : Sign l) {i j : Nat} (hij : i < j) (hj : j < l.length) : (rd_T54 l i).f0 < (rd_T54 l j).f0 := by
  induction j with
  | zero => omega
  | succ j ih =>
    have := h.up j hj
    rcases Nat.lt_or_ge i j with h1 | h1
    · have := ih h1 (by omega)
      omega
    have : i = j := by omega
    subst this
    omega
theorem AtI.mon {l : List S54} {m m' : Int} {i j : Nat} (h : AtI l m i) (h' : AtI l m' j) (hm : m ≤ m') : i ≤ j := by
  rcases Nat.lt_or_ge j i with h1 | h1
  · have := h'.gt i h1 h.lt
    rcases h.le with h2 | h2 <;> omega
  exact h1
/-- price i stands at the minute at which it begins -/
theorem AtI.own {l : List S54} (h : Sign l) {i : Nat} (hi : i < l.length) : AtI l (rd_T54 l i).f0 i :=
  ⟨hi, .inr (Int.le_refl _), fun n hn hn' => h.lt hn hn'⟩
end Go.Proofs.Ytcgdbjojjpoegaa.P

namespace Go.Proofs.Ytcgdbjojjpoegaa.P
open Go.RowKit Go.Proofs.YtcgdbjojjpoegaaW.PrintWords Go.Proofs.YtcgdbjojjpoegaaW.PrintLast Go.Proofs.YtcgdbjojjpoegaaW.PrintMore
attribute [local go_sem] max2_int min2_int max_two min_two max_three min_three max_four min_four   -- for this text's walks alone
set_option linter.unusedVariables false
set_option linter.unusedSimpArgs false

/-! ### forecourtref09_IsClocks: function 39 -/
def forecourtref09_IsClocks.f (a0_0 : Int) (a0_1 : Int) : Option (Bool) := if a0_0 ≥ (-100) then (if a0_0 ≤ a0_1 then (some (decide (a0_1 ≤ 100))) else (some false)) else (some false)
set_option maxHeartbeats 8000000 in
set_option maxRecDepth 100000 in
theorem forecourtref09_IsClocks.calls (a0_0 : Int) (a0_1 : Int) (r : Bool) (w : World) (h : forecourtref09_IsClocks.f a0_0 a0_1 = some r) :
    Calls Try.prog 39 #[.agg #[.int .i64 a0_0, .int .i64 a0_1]] w fun e w' => e = .returned (.bool r) ∧ Below w.heap.size w w' := by
  have hu24 := Try.underlying24
  have HB := Aside0.mk (Below.refl w.heap.size w)
  have H : (if a0_0 ≥ (-100) then (if a0_0 ≤ a0_1 then (some (decide (a0_1 ≤ 100))) else (some false)) else (some false)) = some r := h
  clear h
  by_cases c2 : a0_0 ≥ (-100)
  rotate_left
  · rw [if_neg c2] at H
    have c2b0 : decide ((-100) ≤ a0_0) = false := decide_eq_false c2
    clear c2
    obtain rfl := Option.some.inj H
    go_enter Try.func39, Try.ntmps39
    go_wp2_with (first | ((with_reducible refine gate_dst (N := 1) rfl ?_); refine bx_ (cs := #[.int .i64 a0_0, .int .i64 a0_1]) (t := 24) (fun gb398 w8 BK398 GE398 HB => ?_); obtain ⟨hcz9_0, hcz9_1, hfz9_0, hfz9_1⟩ := cz2_ BK398.out))
    go_ret
    exact ⟨b4_, b1_⟩
  rw [if_pos c2] at H
  have c2b0 : decide ((-100) ≤ a0_0) = true := decide_eq_true c2
  clear c2
  by_cases c3 : a0_0 ≤ a0_1
  · rw [if_pos c3] at H
    have c3b0 : decide (a0_0 ≤ a0_1) = true := decide_eq_true c3
    clear c3
    obtain rfl := Option.some.inj H
    go_enter Try.func39, Try.ntmps39
    go_wp2_with (first | ((with_reducible refine gate_dst (N := 1) rfl ?_); refine bx_ (cs := #[.int .i64 a0_0, .int .i64 a0_1]) (t := 24) (fun gb398 w4 BK398 GE398 HB => ?_); obtain ⟨hcz5_0, hcz5_1, hfz5_0, hfz5_1⟩ := cz2_ BK398.out))
    go_ret
    exact ⟨b4_, b1_⟩
  rw [if_neg c3] at H
  have c3b0 : decide (a0_0 ≤ a0_1) = false := decide_eq_false c3
  clear c3
  obtain rfl := Option.some.inj H
  go_enter Try.func39, Try.ntmps39
  go_wp2_with (first | ((with_reducible refine gate_dst (N := 1) rfl ?_); refine bx_ (cs := #[.int .i64 a0_0, .int .i64 a0_1]) (t := 24) (fun gb398 w6 BK398 GE398 HB => ?_); obtain ⟨hcz7_0, hcz7_1, hfz7_0, hfz7_1⟩ := cz2_ BK398.out))
  go_ret
  exact ⟨b4_, b1_⟩

end Go.Proofs.Ytcgdbjojjpoegaa.P

namespace Go.Proofs.Ytcgdbjojjpoegaa.P
open Go.RowKit Go.Proofs.YtcgdbjojjpoegaaW.PrintWords Go.Proofs.YtcgdbjojjpoegaaW.PrintLast Go.Proofs.YtcgdbjojjpoegaaW.PrintMore
attribute [local go_sem] max2_int min2_int max_two min_two max_three min_three max_four min_four   -- for this text's walks alone
set_option linter.unusedVariables false
set_option linter.unusedSimpArgs false

/-! ### forecourtref09_Fair: function 19 -/
mutual
def forecourtref09_Fair.j0 : Nat → List (S54) → Int → Bool → Int → Int → Option (Int × Int)
  | 0, _, _, _, _, _ => none
  | k + 1, x0, x2, x23, x400000, x400001 => if x23 = true then (some (0, 3)) else ((forecourtref09_At.f k x0 (wrap64 (x2 + x400000))).bind fun t403 => (forecourtref09_Fair.l0 k x0 x2 t403 (wrap64 (x2 + x400000)) x400000 x400001))
def forecourtref09_Fair.l0 : Nat → List (S54) → Int → Int → Int → Int → Int → Option (Int × Int)
  | 0, _, _, _, _, _, _ => none
  | k + 1, x0, x2, x8, x9, x400000, x400001 => if x9 ≤ (wrap64 (x2 + x400001)) then ((forecourtref09_At.f k x0 x9).bind fun t404 => (forecourtref09_Fair.l0 k x0 x2 (mn x8 t404) (wrap64 (x9 + 1)) x400000 x400001)) else (some (x8, 0))
end
def forecourtref09_Fair.f (k : Nat) (l0 : List (S54)) (a1_0 : Int) (a1_1 : Int) (a2 : Int) : Option (Int × Int) := (forecourtref09_CheckSign.f k l0).bind fun t400 => (if t400 = 0 then ((forecourtref09_IsClocks.f a1_0 a1_1).bind fun t402 => (if t402 = true then (if a2 < 0 then (forecourtref09_Fair.j0 k l0 a2 true a1_0 a1_1) else (forecourtref09_Fair.j0 k l0 a2 (decide (a2 > 2000)) a1_0 a1_1)) else (some (0, 2)))) else ((forecourtref09_CheckSign.f k l0).bind fun t401 => (some (0, t401))))
set_option maxHeartbeats 8000000 in
set_option maxRecDepth 100000 in
theorem forecourtref09_Fair.calls (k : Nat) (A0 : Option Addr) (c0 : Nat) (l0 : List (S54)) (a1_0 : Int) (a1_1 : Int) (a2 : Int) (r1 : Int) (r2 : Int) (w : World) (hr0 : Kd.C k54 w A0 l0.length l0) (hc0 : l0.length ≤ c0) (h : forecourtref09_Fair.f k l0 a1_0 a1_1 a2 = some (r1, r2)) :
    Calls Try.prog 19 #[.slice A0 l0.length c0, .agg #[.int .i64 a1_0, .int .i64 a1_1], .int .i64 a2] w fun e w' => e = .returned (.tuple #[.int .i64 r1, .int .i64 r2]) ∧ Below w.heap.size w w' := by
  have hu24 := Try.underlying24
  have HR0 := Aside0.mk hr0
  have HC0 := Aside0.mk hc0
  clear hr0 hc0
  have HB := Aside0.mk (Below.refl w.heap.size w)
  have H : ((forecourtref09_CheckSign.f k l0).bind fun t400 => (if t400 = 0 then ((forecourtref09_IsClocks.f a1_0 a1_1).bind fun t402 => (if t402 = true then (if a2 < 0 then (forecourtref09_Fair.j0 k l0 a2 true a1_0 a1_1) else (forecourtref09_Fair.j0 k l0 a2 (decide (a2 > 2000)) a1_0 a1_1)) else (some (0, 2)))) else ((forecourtref09_CheckSign.f k l0).bind fun t401 => (some (0, t401))))) = some (r1, r2) := h
  clear h
  replace H := Option.bind_eq_some_iff.mp H
  obtain ⟨t400, A40, H⟩ := H
  replace H : (if t400 = 0 then ((forecourtref09_IsClocks.f a1_0 a1_1).bind fun t402 => (if t402 = true then (if a2 < 0 then (forecourtref09_Fair.j0 k l0 a2 true a1_0 a1_1) else (forecourtref09_Fair.j0 k l0 a2 (decide (a2 > 2000)) a1_0 a1_1)) else (some (0, 2)))) else ((forecourtref09_CheckSign.f k l0).bind fun t401 => (some (0, t401)))) = some (r1, r2) := H
  have A4 := Aside0.mk A40
  clear A40
  by_cases c5 : t400 = 0
  rotate_left
  · rw [if_neg c5] at H
    have c5b0 : (t400 == 0) = false := beq_eq_false_iff_ne.mpr c5
    have c5b1 : (t400 != 0) = true := bne_iff_ne.mpr c5
    replace H := Option.bind_eq_some_iff.mp H
    obtain ⟨t401, A240, H⟩ := H
    have H_EQ := Aside0.mk (show t400 = t401 from Option.some.inj (A4.out.symm.trans A240))
    replace H : (some (0, t401)) = some (r1, r2) := H
    have A24 := Aside0.mk A240
    clear A240
    simp only [Option.some.injEq, Prod.mk.injEq] at H
    obtain ⟨rfl, rfl⟩ := H
    go_enter Try.func19, Try.ntmps19
    go_wp2_with (first | ((with_reducible refine gate_dst (N := 4) rfl ?_); refine bx_ (cs := #[.int .i64 a1_0, .int .i64 a1_1]) (t := 24) (fun gb399 w25 BK399 GE399 HB => ?_)) | ((with_reducible refine gate_callee (f := 21) rfl ?_); refine goesL_ (some 11) rfl rfl Try.func21 (by kernel_rfl) rfl #[.slice A0 l0.length c0] rfl b3_ ?_; (with_reducible refine (forecourtref09_CheckSign.calls k _ _ l0 t400 _ ?side1 ?side2 A4.out).mono ?_); (case side1 => repeat (first | exact (Kd.C_below HR0.out HB.out) | (with_reducible refine Kd.C_alloc ?_ _) | (with_reducible refine Kd.C_drewN ?_ _) | (with_reducible refine Kd.C_drew ?_))); (case side2 => exact HC0.out); rintro e w' ⟨rfl, ⟨nd, rfl⟩⟩; refine ⟨_, rfl, ?_⟩) | ((with_reducible refine gate_callee (f := 21) rfl ?_); refine goesL_ (some 14) rfl rfl Try.func21 (by kernel_rfl) rfl #[.slice A0 l0.length c0] rfl b3_ ?_; (with_reducible refine (forecourtref09_CheckSign.calls k _ _ l0 t401 _ ?side1 ?side2 A24.out).mono ?_); (case side1 => repeat (first | exact (Kd.C_below HR0.out b1_) | (with_reducible refine Kd.C_alloc ?_ _) | (with_reducible refine Kd.C_drewN ?_ _) | (with_reducible refine Kd.C_drew ?_))); (case side2 => exact HC0.out); rintro e w' ⟨rfl, ⟨nd, rfl⟩⟩; refine ⟨_, rfl, ?_⟩))
    go_ret2
    obtain rfl := H_EQ.out
    exact ⟨b4_, b1_⟩
  rw [if_pos c5] at H
  have c5b0 : (t400 == 0) = true := beq_iff_eq.mpr c5
  have c5b1 : (t400 != 0) = false := bne_eq_false_iff_eq.mpr c5
  clear c5
  replace H := Option.bind_eq_some_iff.mp H
  obtain ⟨t402, A60, H⟩ := H
  replace H : (if t402 = true then (if a2 < 0 then (forecourtref09_Fair.j0 k l0 a2 true a1_0 a1_1) else (forecourtref09_Fair.j0 k l0 a2 (decide (a2 > 2000)) a1_0 a1_1)) else (some (0, 2))) = some (r1, r2) := H
  have A6 := Aside0.mk A60
  clear A60
  by_cases c7 : t402 = true
  rotate_left
  · replace c7 := Bool.eq_false_iff.mpr c7
    subst c7
    have H1 : (some (0, 2)) = some (r1, r2) := by rw [if_neg (show ¬ (false = true) by decide)] at H; exact H
    clear H
    have H := H1
    clear H1
    simp only [Option.some.injEq, Prod.mk.injEq] at H
    obtain ⟨rfl, rfl⟩ := H
    go_enter Try.func19, Try.ntmps19
    go_wp2_with (first | ((with_reducible refine gate_dst (N := 4) rfl ?_); refine bx_ (cs := #[.int .i64 a1_0, .int .i64 a1_1]) (t := 24) (fun gb399 w21 BK399 GE399 HB => ?_)) | ((with_reducible refine gate_callee (f := 21) rfl ?_); refine goesL_ (some 11) rfl rfl Try.func21 (by kernel_rfl) rfl #[.slice A0 l0.length c0] rfl b3_ ?_; (with_reducible refine (forecourtref09_CheckSign.calls k _ _ l0 t400 _ ?side1 ?side2 A4.out).mono ?_); (case side1 => repeat (first | exact (Kd.C_below HR0.out HB.out) | (with_reducible refine Kd.C_alloc ?_ _) | (with_reducible refine Kd.C_drewN ?_ _) | (with_reducible refine Kd.C_drew ?_))); (case side2 => exact HC0.out); rintro e w' ⟨rfl, ⟨nd, rfl⟩⟩; refine ⟨_, rfl, ?_⟩; obtain ⟨hcz22_0, hcz22_1, hfz22_0, hfz22_1⟩ := cz2_ BK399.out) | ((with_reducible refine gate_callee (f := 39) rfl ?_); refine goesL_ (some 16) rfl rfl Try.func39 (by kernel_rfl) rfl #[.agg #[.int .i64 a1_0, .int .i64 a1_1]] rfl b3_ ?_; (with_reducible refine (forecourtref09_IsClocks.calls a1_0 a1_1 false _ A6.out).mono ?_); rintro e w23 ⟨rfl, hb⟩; refine ⟨_, rfl, ?_⟩; replace BK399 := bk_ BK399 hb; replace HB := hB_ HB hb; (try clear hb)))
    go_ret2
    exact ⟨b4_, b1_⟩
  subst c7
  have H1 : (if a2 < 0 then (forecourtref09_Fair.j0 k l0 a2 true a1_0 a1_1) else (forecourtref09_Fair.j0 k l0 a2 (decide (a2 > 2000)) a1_0 a1_1)) = some (r1, r2) := by rw [if_pos rfl] at H; exact H
  clear H
  have H := H1
  clear H1
  have HC8 := Aside0.mk H
  clear H
  go_enter Try.func19, Try.ntmps19
  go_upto_region 5 with (first | ((with_reducible refine gate_dst (N := 4) rfl ?_); refine bx_ (cs := #[.int .i64 a1_0, .int .i64 a1_1]) (t := 24) (fun gb399 w9 BK399 GE399 HB => ?_)) | ((with_reducible refine gate_callee (f := 21) rfl ?_); refine goesL_ (some 11) rfl rfl Try.func21 (by kernel_rfl) rfl #[.slice A0 l0.length c0] rfl b3_ ?_; (with_reducible refine (forecourtref09_CheckSign.calls k _ _ l0 t400 _ ?side1 ?side2 A4.out).mono ?_); (case side1 => repeat (first | exact (Kd.C_below HR0.out HB.out) | (with_reducible refine Kd.C_alloc ?_ _) | (with_reducible refine Kd.C_drewN ?_ _) | (with_reducible refine Kd.C_drew ?_))); (case side2 => exact HC0.out); rintro e w' ⟨rfl, ⟨nd, rfl⟩⟩; refine ⟨_, rfl, ?_⟩; obtain ⟨hcz10_0, hcz10_1, hfz10_0, hfz10_1⟩ := cz2_ BK399.out) | ((with_reducible refine gate_callee (f := 39) rfl ?_); refine goesL_ (some 16) rfl rfl Try.func39 (by kernel_rfl) rfl #[.agg #[.int .i64 a1_0, .int .i64 a1_1]] rfl b3_ ?_; (with_reducible refine (forecourtref09_IsClocks.calls a1_0 a1_1 true _ A6.out).mono ?_); rintro e w11 ⟨rfl, hb⟩; refine ⟨_, rfl, ?_⟩; replace BK399 := bk_ BK399 hb; replace HB := hB_ HB hb; (try clear hb)))
  (try simp only [Act.put, List.setIfInBounds_toArray, List.set_cons_zero, List.set_cons_succ])
  go_cut [23] (fun v23 wc => ∃ (kq : Nat) (x23_7 : Bool), v23 = .bool x23_7 ∧ Aside0 (forecourtref09_Fair.j0 kq l0 a2 x23_7 a1_0 a1_1 = some (r1, r2)) ∧ Aside0 (kq ≤ k) ∧ Aside0 (wc.heap[gb399]? = some (.cells #[.int .i64 a1_0, .int .i64 a1_1] 24 (0, 0))) ∧ Aside0 (Below w.heap.size w wc))
  case first =>
    have H := HC8.out
    clear HC8
    by_cases c12 : a2 < 0
    · rw [if_pos c12] at H
      have c12b0 : decide (a2 < 0) = true := decide_eq_true c12
      clear c12
      (first | rw [c12b0] | (simp only [i64_w, i32_w]; rw [c12b0]) | skip)
      have H' := Aside0.mk H
      clear H
      go_wp2
      go_meet
      case rel => exact ⟨_, (true), b5_, H', ⟨b26_⟩, ⟨b37_⟩, ⟨b1_⟩⟩
    rw [if_neg c12] at H
    have c12b0 : decide (a2 < 0) = false := decide_eq_false c12
    clear c12
    (first | rw [c12b0] | (simp only [i64_w, i32_w]; rw [c12b0]) | skip)
    have H' := Aside0.mk H
    clear H
    go_wp2
    go_meet
    case rel => exact ⟨_, (decide (a2 > 2000)), b5_, H', ⟨b26_⟩, ⟨b37_⟩, ⟨b1_⟩⟩
  clear HC8
  try clear c1
  try clear c2
  try clear p2
  try clear c3
  try clear c5
  try clear c5b0
  try clear c5b1
  try clear c7
  try clear c12
  try clear c12b0
  try clear hcz10_0
  try clear hcz10_1
  try clear hfz10_0
  try clear hfz10_1
  obtain ⟨kq, x23_7, rfl, HA, HJ7, BK399, HB⟩ := hcut
  cases kq with
  | zero => exact absurd HA.out (by simp [forecourtref09_Fair.j0])
  | succ kj7 => ?_
  have H := HA.out
  clear HA
  simp only [forecourtref09_Fair.j0] at H
  by_cases c13 : x23_7 = true
  · subst c13
    have H1 : (some (0, 3)) = some (r1, r2) := by rw [if_pos rfl] at H; exact H
    clear H
    have H := H1
    clear H1
    simp only [Option.some.injEq, Prod.mk.injEq] at H
    obtain ⟨rfl, rfl⟩ := H
    go_wp2
    go_ret2
    exact ⟨b4_, b1_⟩
  replace c13 := Bool.eq_false_iff.mpr c13
  subst c13
  have H1 : ((forecourtref09_At.f kj7 l0 (wrap64 (a2 + a1_0))).bind fun t403 => (forecourtref09_Fair.l0 kj7 l0 a2 t403 (wrap64 (a2 + a1_0)) a1_0 a1_1)) = some (r1, r2) := by rw [if_neg (show ¬ (false = true) by decide)] at H; exact H
  clear H
  have H := H1
  clear H1
  replace H := Option.bind_eq_some_iff.mp H
  obtain ⟨t403, A140, H⟩ := H
  replace H : (forecourtref09_Fair.l0 kj7 l0 a2 t403 (wrap64 (a2 + a1_0)) a1_0 a1_1) = some (r1, r2) := H
  have A14 := Aside0.mk A140
  clear A140
  have H' := Aside0.mk H
  clear H
  obtain ⟨hcz15_0, hcz15_1, hfz15_0, hfz15_1⟩ := cz2_ BK399.out
  go_wp2_with (first | ((with_reducible refine gate_callee (f := 36) rfl ?_); refine goesL_ (some 29) rfl rfl Try.func36 (by kernel_rfl) rfl #[.slice A0 l0.length c0, .int .i64 (wrap64 (a2 + a1_0))] rfl b3_ ?_; (with_reducible refine (forecourtref09_At.calls kj7 _ _ l0 (wrap64 (a2 + a1_0)) t403 _ ?side1 ?side2 A14.out).mono ?_); (case side1 => repeat (first | exact (Kd.C_below HR0.out HB.out) | (with_reducible refine Kd.C_alloc ?_ _) | (with_reducible refine Kd.C_drewN ?_ _) | (with_reducible refine Kd.C_drew ?_))); (case side2 => exact HC0.out); rintro e w' ⟨rfl, ⟨nd, rfl⟩⟩; refine ⟨_, rfl, ?_⟩))
  go_loopg [8, 9] kj7 (fun kq v8 v9 w' => ∃ (x8_2 : Int) (x9_2 : Int), v8 = .int .i64 x8_2 ∧ v9 = .int .i64 x9_2 ∧ Aside0 (forecourtref09_Fair.l0 kq l0 a2 x8_2 x9_2 a1_0 a1_1 = some (r1, r2)) ∧ Aside0 (kq ≤ kj7) ∧ Aside0 (w'.heap[gb399]? = some (.cells #[.int .i64 a1_0, .int .i64 a1_1] 24 (0, 0))) ∧ Aside0 (Below w.heap.size w w'))
  case atStart => exact ⟨(t403), (wrap64 (a2 + a1_0)), b5_, b5_, H', ⟨Nat.le_refl _⟩, ⟨b37_⟩, ⟨b1_⟩⟩
  clear H'
  try clear c1
  try clear c2
  try clear p2
  try clear c3
  try clear c5
  try clear c5b0
  try clear c5b1
  try clear p6
  try clear c7
  try clear c12
  try clear c12b0
  try clear c13
  try clear hcz10_0
  try clear hcz10_1
  try clear hcz15_0
  try clear hcz15_1
  try clear hfz10_0
  try clear hfz10_1
  try clear hfz15_0
  try clear hfz15_1
  try clear p2
  obtain ⟨x8_2, x9_2, rfl, rfl, HA, HK2, BK399, HB⟩ := hrel
  cases gk with
  | zero => exact absurd HA.out (by simp [forecourtref09_Fair.l0])
  | succ k2 => ?_
  have H := HA.out
  clear HA
  simp only [forecourtref09_Fair.l0] at H
  by_cases c16 : x9_2 ≤ (wrap64 (a2 + a1_1))
  rotate_left
  · rw [if_neg c16] at H
    have c16b0 : decide (x9_2 ≤ (wrap64 (a2 + a1_1))) = false := decide_eq_false c16
    clear c16
    simp only [Option.some.injEq, Prod.mk.injEq] at H
    obtain ⟨rfl, rfl⟩ := H
    obtain ⟨hcz20_0, hcz20_1, hfz20_0, hfz20_1⟩ := cz2_ BK399.out
    go_wp2
    go_ret2
    exact ⟨b4_, b1_⟩
  rw [if_pos c16] at H
  have c16b0 : decide (x9_2 ≤ (wrap64 (a2 + a1_1))) = true := decide_eq_true c16
  clear c16
  replace H := Option.bind_eq_some_iff.mp H
  obtain ⟨t404, A170, H⟩ := H
  replace H : (forecourtref09_Fair.l0 k2 l0 a2 (mn x8_2 t404) (wrap64 (x9_2 + 1)) a1_0 a1_1) = some (r1, r2) := H
  have A17 := Aside0.mk A170
  clear A170
  obtain ⟨ji18, hji18⟩ : ∃ j_ : Int, (mn x8_2 t404) = j_ := ⟨_, rfl⟩
  replace H : (forecourtref09_Fair.l0 k2 l0 a2 ji18 (wrap64 (x9_2 + 1)) a1_0 a1_1) = some (r1, r2) := by first | (rw [hji18] at H; exact H) | (simp only [hji18] at H ⊢; exact H)
  (try rw [hji18] at A17)
  have hji18_ : (if t404 < x8_2 then t404 else x8_2) = ji18 := hji18
  have H' := Aside0.mk H
  clear H
  obtain ⟨hcz19_0, hcz19_1, hfz19_0, hfz19_1⟩ := cz2_ BK399.out
  go_wp2_with (first | ((with_reducible refine gate_callee (f := 36) rfl ?_); refine goesL_ (some 45) rfl rfl Try.func36 (by kernel_rfl) rfl #[.slice A0 l0.length c0, .int .i64 x9_2] rfl b3_ ?_; (with_reducible refine (forecourtref09_At.calls k2 _ _ l0 x9_2 t404 _ ?side1 ?side2 A17.out).mono ?_); (case side1 => repeat (first | exact (Kd.C_below HR0.out HB.out) | (with_reducible refine Kd.C_alloc ?_ _) | (with_reducible refine Kd.C_drewN ?_ _) | (with_reducible refine Kd.C_drew ?_))); (case side2 => exact HC0.out); rintro e w' ⟨rfl, ⟨nd, rfl⟩⟩; refine ⟨_, rfl, ?_⟩))
  go_roundg k2
  case measure => have := HJ7.out; have := HK2.out; omega
  case rel => exact ⟨(ji18), (wrap64 (x9_2 + 1)), (by first | rfl | (simp; done) | (simp only [← hji18] <;> (first | rfl | simp)) | (simp [*]; done)), b5_, H', ⟨(by have := HJ7.out; have := HK2.out; omega)⟩, ⟨b37_⟩, ⟨b1_⟩⟩

end Go.Proofs.Ytcgdbjojjpoegaa.P

namespace Go.Proofs.Ytcgdbjojjpoegaa.P
open Go.RowKit Go.Proofs.YtcgdbjojjpoegaaW.PrintWords Go.Proofs.YtcgdbjojjpoegaaW.PrintLast Go.Proofs.YtcgdbjojjpoegaaW.PrintMore
set_option linter.unusedVariables false
set_option linter.unusedSimpArgs false

/-- the price at a minute -/
def atV (l : List S54) (m : Int) : Int := (rd_T54 l ((pole_at.f 40 l m).getD 0)).f1
theorem AtI.val {l : List S54} {m : Int} {j : Nat} (h : AtI l m j) (hl : l.length ≤ 30) : atV l m = (rd_T54 l j).f1 := by
  unfold atV
  rw [pole_at_eq h hl 40 (Nat.le_refl _)]
  rfl
theorem ref_at (l : List S54) (m : Int) (h0 : 0 < l.length) (hl : l.length ≤ 30) (k : Nat) (hk : 40 ≤ k) : forecourtref09_At.f k l m = some (atV l m) := by
  obtain ⟨j, h1, _⟩ := at_ex l m h0 hl
  rw [ref_at_eq h1 hl k hk, h1.val hl]
/-- the fair price of a minute -/
def FairV (l : List S54) (lo hi m v : Int) : Prop := (∃ t, m + lo ≤ t ∧ t ≤ m + hi ∧ v = atV l t) ∧ ∀ t, m + lo ≤ t → t ≤ m + hi → v ≤ atV l t
theorem FairV.uniq {l : List S54} {lo hi m v u : Int} (h : FairV l lo hi m v) (h' : FairV l lo hi m u) : v = u := by
  obtain ⟨⟨t, a, b, e⟩, f⟩ := h
  obtain ⟨⟨t', a', b', e'⟩, f'⟩ := h'
  have h1 := f t' a' b'
  have h2 := f' t a b
  omega
theorem leastP_fold : ∀ (l : List S54) (x : S54), (l.foldl minP x = x ∨ l.foldl minP x ∈ l) ∧ (l.foldl minP x).f1 ≤ x.f1 ∧ ∀ y ∈ l, (l.foldl minP x).f1 ≤ y.f1
  | [], x => ⟨.inl rfl, Int.le_refl _, fun y hy => by cases hy⟩
  | z :: l, x => by
    obtain ⟨h1, h2, h3⟩ := leastP_fold l (minP x z)
    have hm : (minP x z = x ∨ minP x z = z) ∧ (minP x z).f1 ≤ x.f1 ∧ (minP x z).f1 ≤ z.f1 := by
      unfold minP
      split
      · exact ⟨.inr rfl, (by omega), (by omega)⟩
      · exact ⟨.inl rfl, (by omega), (by omega)⟩
    refine ⟨?_, (by rw [List.foldl_cons]; omega), fun y hy => ?_⟩
    · rw [List.foldl_cons]
      rcases h1 with h1 | h1
      · rcases hm.1 with h4 | h4
        · exact .inl (h1.trans h4)
        exact .inr (by rw [h1, h4]; exact List.mem_cons_self ..)
      exact .inr (List.mem_cons_of_mem _ h1)
    rw [List.foldl_cons]
    rcases List.mem_cons.1 hy with h4 | h4
    · subst h4
      omega
    exact h3 y h4
theorem leastP_spec (l : List S54) (h : l ≠ []) : leastP l ∈ l ∧ ∀ y ∈ l, (leastP l).f1 ≤ y.f1 := by
  cases l with
  | nil => exact absurd rfl h
  | cons x l => ?_
  obtain ⟨h1, h2, h3⟩ := leastP_fold l x
  refine ⟨?_, fun y hy => ?_⟩
  · rcases h1 with h1 | h1
    · show l.foldl minP x ∈ _
      rw [h1]
      exact List.mem_cons_self ..
    exact List.mem_cons_of_mem _ h1
  rcases List.mem_cons.1 hy with h4 | h4
  · subst h4
    exact h2
  exact h3 y h4
theorem fair_eq {l : List S54} (hs : Sign l) {lo hi m : Int} (h1 : -100 ≤ lo) (h2 : lo ≤ hi) (h3 : hi ≤ 100) (hm0 : -10000 ≤ m) (hm : m ≤ 10000) : ∃ v, pole_fair.f l lo hi m = some v ∧ FairV l lo hi m v := by
  obtain ⟨i, hi1, hi2⟩ := at_ex l (m + lo) hs.pos hs.le
  obtain ⟨j, hj1, hj2⟩ := at_ex l (m + hi) hs.pos hs.le
  have hij : i ≤ j := hi1.mon hj1 (by omega)
  have hjl := hj1.lt
  refine ⟨(leastP ((l.drop i).take (j + 1 - i))).f1, ?_, ?_⟩
  · unfold pole_fair.f
    rw [wrap_ok (m + lo) (by omega) (by omega), wrap_ok (m + hi) (by omega) (by omega), hi2 100 (by omega), hj2 100 (by omega)]
    simp only [Option.bind_some]
    rw [if_pos (by omega)]
    rfl
  have hne : (l.drop i).take (j + 1 - i) ≠ [] := by
    intro h
    have := congrArg List.length h
    simp only [List.length_take, List.length_drop, List.length_nil] at this
    omega
  obtain ⟨hmem, hle⟩ := leastP_spec _ hne
  have mem : ∀ n : Nat, i ≤ n → n ≤ j → rd_T54 l n ∈ (l.drop i).take (j + 1 - i) := by
    intro n hn hn'
    rw [rdP l n (by omega)]
    rw [List.mem_iff_getElem?]
    refine ⟨n - i, ?_⟩
    rw [List.getElem?_take, if_pos (by omega), List.getElem?_drop, show i + (n - i) = n by omega, List.getElem?_eq_getElem (by omega)]
  refine ⟨?_, fun t ht ht' => ?_⟩
  · obtain ⟨n, hn⟩ := List.mem_iff_getElem?.1 hmem
    rw [List.getElem?_take] at hn
    split at hn
    · rename_i hlt
      rw [List.getElem?_drop] at hn
      obtain ⟨hb, hn⟩ := List.getElem?_eq_some_iff.1 hn
      rw [← hn, ← rdP l (i + n) hb]
      cases n with
      | zero => exact ⟨m + lo, Int.le_refl _, (by omega), (hi1.val hs.le).symm⟩
      | succ n => ?_
      refine ⟨(rd_T54 l ((i + (n + 1) : Nat) : Int)).f0, ?_, ?_, ((AtI.own hs hb).val hs.le).symm⟩
      · have := hi1.gt (i + (n + 1)) (by omega) hb
        omega
      have h5 : (rd_T54 l ((i + (n + 1) : Nat) : Int)).f0 ≤ (rd_T54 l (j : Int)).f0 := by
        rcases Nat.lt_or_ge (i + (n + 1)) j with h6 | h6
        · have := hs.lt h6 hjl
          omega
        · have : i + (n + 1) = j := by omega
          rw [this]
          exact Int.le_refl _
      rcases hj1.le with h6 | h6
      · omega
      omega
    cases hn
  obtain ⟨n, hn, _⟩ := at_ex l t hs.pos hs.le
  rw [hn.val hs.le]
  exact hle _ (mem n (hi1.mon hn ht) (hn.mon hj1 ht'))
theorem refFair_l0 {l : List S54} (hs : Sign l) (lo hi m : Int) (h3 : hi ≤ 100) (h1 : -100 ≤ lo) (hm0 : 0 ≤ m) (hm : m ≤ 2000) : ∀ (n k : Nat) (acc t : Int), n + 41 ≤ k → m + hi + 1 = t + n → m + lo ≤ t → ∃ v, forecourtref09_Fair.l0 k l m acc t lo hi = some (v, 0) ∧ v ≤ acc ∧ (v = acc ∨ ∃ t', t ≤ t' ∧ t' ≤ m + hi ∧ v = atV l t') ∧ ∀ t', t ≤ t' → t' ≤ m + hi → v ≤ atV l t'
  | n, 0, acc, t, hk, ht, hl => by omega
  | 0, k + 1, acc, t, hk, ht, hl => by
    unfold forecourtref09_Fair.l0
    rw [wrap_ok (m + hi) (by omega) (by omega), if_neg (by omega)]
    exact ⟨acc, rfl, Int.le_refl _, .inl rfl, fun t' a b => by omega⟩
  | n + 1, k + 1, acc, t, hk, ht, hl => by
    unfold forecourtref09_Fair.l0
    rw [wrap_ok (m + hi) (by omega) (by omega), if_pos (by omega), ref_at l t hs.pos hs.le k (by omega), Option.bind_some, wrap_ok (t + 1) (by omega) (by omega)]
    obtain ⟨v, h4, h5, h6, h7⟩ := refFair_l0 hs lo hi m h3 h1 hm0 hm n k (mn acc (atV l t)) (t + 1) (by omega) (by omega) (by omega)
    have hmn : (mn acc (atV l t) = acc ∨ mn acc (atV l t) = atV l t) ∧ mn acc (atV l t) ≤ acc ∧ mn acc (atV l t) ≤ atV l t := by
      unfold mn
      split <;> omega
    refine ⟨v, h4, (by omega), ?_, fun t' a b => ?_⟩
    · rcases h6 with h6 | ⟨t', a, b, e⟩
      · rcases hmn.1 with h8 | h8
        · exact .inl (by omega)
        exact .inr ⟨t, Int.le_refl _, (by omega), (by omega)⟩
      exact .inr ⟨t', (by omega), b, e⟩
    rcases Int.lt_or_le t t' with h8 | h8
    · exact h7 t' (by omega) b
    have : t' = t := by omega
    subst this
    omega
theorem refFair_eq {l : List S54} (hs : Sign l) {lo hi m : Int} (h1 : -100 ≤ lo) (h2 : lo ≤ hi) (h3 : hi ≤ 100) (hm0 : 0 ≤ m) (hm : m ≤ 2000) (k : Nat) (hk : 1000 ≤ k) : ∃ v, forecourtref09_Fair.j0 k l m false lo hi = some (v, 0) ∧ FairV l lo hi m v := by
  obtain ⟨k, rfl⟩ : ∃ j, k = j + 1 := ⟨k - 1, (by omega)⟩
  rw [forecourtref09_Fair.j0, if_neg (by decide), wrap_ok (m + lo) (by omega) (by omega), ref_at l (m + lo) hs.pos hs.le k (by omega), Option.bind_some]
  obtain ⟨v, h4, h5, h6, h7⟩ := refFair_l0 hs lo hi m h3 h1 hm0 hm (hi - lo + 1).toNat k (atV l (m + lo)) (m + lo) (by omega) (by omega) (Int.le_refl _)
  refine ⟨v, h4, ?_, h7⟩
  rcases h6 with h6 | h6
  · exact ⟨m + lo, Int.le_refl _, (by omega), h6⟩
  exact h6
/-- clocks that differ as they may -/
def clockB (lo hi : Int) : Bool := decide (-100 ≤ lo) && decide (lo ≤ hi) && decide (hi ≤ 100)
theorem checkClocks_eq (l : List S54) (lo hi : Int) : pole_checkClocks.f l lo hi = some (if signE l = 0 then (if clockB lo hi = true then 0 else 2) else signE l) := by
  unfold pole_checkClocks.f pole_CheckSign.f pole_within.f withinB clockB
  simp only [Option.bind_some, List.all_cons, List.all_nil, Bool.and_true, Bool.and_eq_true, decide_eq_true_eq]
  repeat' split
  all_goals (first | rfl | (exfalso; omega))
theorem isClocks_eq (lo hi : Int) : forecourtref09_IsClocks.f lo hi = some (clockB lo hi) := by
  unfold forecourtref09_IsClocks.f clockB
  by_cases h1 : lo ≥ -100
  rotate_left
  · rw [if_neg h1, decide_eq_false (show ¬ (-100 ≤ lo) by omega)]
    rfl
  by_cases h2 : lo ≤ hi
  rotate_left
  · rw [if_pos h1, if_neg h2, decide_eq_false h2, Bool.and_false]
    rfl
  rw [if_pos h1, if_pos h2, decide_eq_true (show -100 ≤ lo by omega), decide_eq_true h2]
  rfl
/-- what Price answers -/
def priceV (l : List S54) (m : Int) : Int × Int := if signE l = 0 then (if 0 ≤ m ∧ m ≤ 2000 then (atV l m, 0) else (0, 3)) else (0, signE l)
theorem price_eq (l : List S54) (m : Int) (k : Nat) (hk : 100 ≤ k) : pole_Price.f k l m = some (priceV l m) := by
  unfold pole_Price.f pole_CheckSign.f pole_within.f withinB priceV
  simp only [Option.bind_some, List.all_cons, List.all_nil, Bool.and_true, Bool.and_eq_true, decide_eq_true_eq]
  by_cases h : signE l = 0
  rotate_left
  · rw [if_neg h, if_neg h]
  rw [if_pos h, if_pos h]
  by_cases h1 : 0 ≤ m ∧ m ≤ 2000
  rotate_left
  · rw [if_neg h1, if_neg h1]
  have hs := signE_sign h
  obtain ⟨j, h2, h3⟩ := at_ex l m hs.pos hs.le
  have := h2.lt
  rw [if_pos h1, if_pos h1, h3 k (by omega), h2.val hs.le, Option.bind_some, if_pos (by omega), if_pos (by omega)]
theorem refPrice_eq (l : List S54) (m : Int) (k : Nat) (hk : 100 ≤ k) : forecourtref09_Price.f k l m = some (priceV l m) := by
  unfold forecourtref09_Price.f priceV
  rw [refCS l k hk]
  simp only [Option.bind_some]
  by_cases h : signE l = 0
  rotate_left
  · rw [if_neg h, if_neg h]
  have hs := signE_sign h
  rw [if_pos h, if_pos h]
  by_cases h1 : m < 0
  · rw [if_pos h1, if_neg (by omega)]
  by_cases h2 : m > 2000
  · rw [if_neg h1, if_pos h2, if_neg (by omega)]
  rw [if_neg h1, if_neg h2, if_pos (by omega), ref_at l m hs.pos hs.le k (by omega), Option.bind_some]
theorem fair_same (l : List S54) (lo hi m : Int) (k : Nat) (hk : 2000 ≤ k) : ∃ v, pole_Fair.f l lo hi m = some v ∧ forecourtref09_Fair.f k l lo hi m = some v := by
  unfold pole_Fair.f forecourtref09_Fair.f pole_within.f withinB
  rw [checkClocks_eq, refCS l k (by omega), isClocks_eq]
  simp only [Option.bind_some, List.all_cons, List.all_nil, Bool.and_true, Bool.and_eq_true, decide_eq_true_eq]
  by_cases h : signE l = 0
  rotate_left
  · rw [if_neg h, if_neg h, if_neg h]
    exact ⟨_, rfl, rfl⟩
  have hs := signE_sign h
  rw [if_pos h, if_pos h]
  by_cases hc : clockB lo hi = true
  rotate_left
  · rw [if_neg hc, if_neg hc, if_neg (by decide)]
    exact ⟨_, rfl, rfl⟩
  rw [if_pos hc, if_pos hc, if_pos rfl]
  have hc' : -100 ≤ lo ∧ lo ≤ hi ∧ hi ≤ 100 := by
    unfold clockB at hc
    simp only [Bool.and_eq_true, decide_eq_true_eq] at hc
    omega
  by_cases h1 : m < 0
  · obtain ⟨k, rfl⟩ : ∃ j, k = j + 1 := ⟨k - 1, (by omega)⟩
    rw [if_neg (by omega), if_pos h1, forecourtref09_Fair.j0, if_pos rfl]
    exact ⟨_, rfl, rfl⟩
  by_cases h2 : m > 2000
  · obtain ⟨k, rfl⟩ : ∃ j, k = j + 1 := ⟨k - 1, (by omega)⟩
    rw [if_neg (by omega), if_neg h1, forecourtref09_Fair.j0, if_pos (decide_eq_true h2)]
    exact ⟨_, rfl, rfl⟩
  obtain ⟨v, h3, h4⟩ := fair_eq hs hc'.1 hc'.2.1 hc'.2.2 (show -10000 ≤ m by omega) (show m ≤ 10000 by omega)
  obtain ⟨u, h5, h6⟩ := refFair_eq hs hc'.1 hc'.2.1 hc'.2.2 (show 0 ≤ m by omega) (show m ≤ 2000 by omega) k (by omega)
  rw [if_pos (by omega), if_neg h1, decide_eq_false h2, h3, h5, h4.uniq h6]
  exact ⟨_, rfl, rfl⟩
end Go.Proofs.Ytcgdbjojjpoegaa.P

