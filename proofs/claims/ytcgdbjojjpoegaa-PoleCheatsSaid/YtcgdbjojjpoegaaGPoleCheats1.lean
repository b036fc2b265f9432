/- Texts of this claim, joined: T13, Pf61, Pf23, Pf25, T14, T15, Pf4, PurePoleCheats. -/
import Derived.Test.YtcgdbjojjpoegaaGc6
namespace Go.Proofs.Ytcgdbjojjpoegaa.P
open Go.RowKit Go.Proofs.YtcgdbjojjpoegaaW.PrintWords Go.Proofs.YtcgdbjojjpoegaaW.PrintLast Go.Proofs.YtcgdbjojjpoegaaW.PrintMore
set_option linter.unusedVariables false
set_option linter.unusedSimpArgs false

theorem withinB_1 {lo hi x : Int} : withinB lo hi [x] = true ↔ lo ≤ x ∧ x ≤ hi := by
  rw [← withinB_eq]
  simp
/-- Compact of a sorted list is strictly increasing, and has the same elements. -/
theorem compact_up (zs : List Int) (h : zs.Pairwise (· ≤ ·)) : (Lib.compact zs).Pairwise (· < ·) ∧ ∀ x, x ∈ Lib.compact zs ↔ x ∈ zs := by
  have hs : ∀ i j, i < j → j < zs.length → zs.toArray[i]! ≤ zs.toArray[j]! := by
    intro i j hij hj
    have h1 := List.pairwise_iff_getElem.1 h i j (by omega) hj hij
    simpa [getElem!_pos, hj, show i < zs.length by omega] using h1
  have key : ∀ m, m ≤ zs.length → (Lib.compactUpTo zs.toArray m).Pairwise (· < ·) ∧ ∀ x, x ∈ Lib.compactUpTo zs.toArray m ↔ ∃ j, j < m ∧ zs.toArray[j]! = x := by
    intro m
    induction m with
    | zero => intro _; exact ⟨by simp [Lib.compactUpTo], fun x => by simp [Lib.compactUpTo]⟩
    | succ m ih =>
      intro hm
      obtain ⟨h1, h2⟩ := ih (by omega)
      rw [Lib.compactUpTo_succ]
      by_cases hk : Lib.keeps zs.toArray m = true
      · rw [if_pos hk]
        refine ⟨List.pairwise_append.2 ⟨h1, List.pairwise_singleton _ _, fun a ha b hb => ?_⟩, fun x => ?_⟩
        · rw [List.mem_singleton] at hb
          subst hb
          obtain ⟨j, hj, rfl⟩ := (h2 a).1 ha
          have h3 : m ≠ 0 := by omega
          have h4 : zs.toArray[m]! ≠ zs.toArray[m - 1]! := by
            have := of_decide_eq_true hk
            rcases this with h5 | h5
            · exact absurd h5 h3
            · exact h5
          have h5 : zs.toArray[j]! ≤ zs.toArray[m - 1]! := by
            rcases Nat.lt_or_ge j (m - 1) with h6 | h6
            · exact hs j (m - 1) h6 (by omega)
            · have : j = m - 1 := by omega
              rw [this]
              exact Int.le_refl _
          have h6 := hs (m - 1) m (by omega) (by omega)
          omega
        · rw [List.mem_append, h2, List.mem_singleton]
          constructor
          · rintro (⟨j, hj, e⟩ | e)
            · exact ⟨j, by omega, e⟩
            · exact ⟨m, by omega, e.symm⟩
          · rintro ⟨j, hj, e⟩
            rcases Nat.lt_or_ge j m with h6 | h6
            · exact .inl ⟨j, h6, e⟩
            · have : j = m := by omega
              subst this
              exact .inr e.symm
      · rw [if_neg hk, List.append_nil]
        refine ⟨h1, fun x => ?_⟩
        rw [h2]
        constructor
        · rintro ⟨j, hj, e⟩
          exact ⟨j, by omega, e⟩
        · rintro ⟨j, hj, e⟩
          rcases Nat.lt_or_ge j m with h6 | h6
          · exact ⟨j, h6, e⟩
          · have : j = m := by omega
            subst this
            have h7 : ¬ (j = 0 ∨ zs.toArray[j]! ≠ zs.toArray[j - 1]!) := fun h8 => hk (decide_eq_true h8)
            have h8 : j ≠ 0 := fun h9 => h7 (.inl h9)
            exact ⟨j - 1, by omega, by
              rcases Decidable.em (zs.toArray[j]! = zs.toArray[j - 1]!) with h9 | h9
              · exact h9.symm.trans e
              · exact absurd (.inr h9) h7⟩
  obtain ⟨h1, h2⟩ := key zs.length (Nat.le_refl _)
  refine ⟨h1, fun x => (h2 x).trans ?_⟩
  constructor
  · rintro ⟨j, hj, e⟩
    rw [← e]
    simp [getElem!_pos, hj]
  · intro hx
    obtain ⟨j, hj, e⟩ := List.mem_iff_getElem.1 hx
    exact ⟨j, hj, by simpa [getElem!_pos, hj] using e⟩
/-- Strictly increasing lists with the same elements are equal. -/
theorem up_eq : ∀ (a b : List Int), a.Pairwise (· < ·) → b.Pairwise (· < ·) → (∀ x, x ∈ a ↔ x ∈ b) → a = b
  | [], [], _, _, _ => rfl
  | [], y :: b, _, _, h => by have := (h y).2 (by simp); simp at this
  | x :: a, [], _, _, h => by have := (h x).1 (by simp); simp at this
  | x :: a, y :: b, h1, h2, h => by
    rw [List.pairwise_cons] at h1 h2
    have hxy : x = y := by
      have h3 := (h x).1 (by simp)
      have h4 := (h y).2 (by simp)
      rw [List.mem_cons] at h3 h4
      rcases h3 with h3 | h3
      · exact h3
      · rcases h4 with h4 | h4
        · exact h4.symm
        · have := h1.1 y h4
          have := h2.1 x h3
          omega
    subst hxy
    rw [up_eq a b h1.2 h2.2 fun z => ?_]
    constructor
    · intro hz
      have := (h z).1 (by simp [hz])
      rw [List.mem_cons] at this
      rcases this with e | e
      · have := h1.1 z hz; omega
      · exact e
    · intro hz
      have := (h z).2 (by simp [hz])
      rw [List.mem_cons] at this
      rcases this with e | e
      · have := h2.1 z hz; omega
      · exact e
theorem sort_up (l : List Int) : (l.mergeSort fun x y => decide (x ≤ y)).Pairwise (· ≤ ·) := by
  have := List.pairwise_mergeSort (le := fun x y : Int => decide (x ≤ y)) (fun a b c => by simp only [decide_eq_true_eq]; omega) (fun a b => by simp only [Bool.or_eq_true, decide_eq_true_eq]; omega) l
  exact this.imp fun h => of_decide_eq_true h
theorem changes_up (lo hi : Int) (l : List S54) : (changesL lo hi l).Pairwise (· < ·) := (compact_up _ (sort_up _)).1
theorem changes_mem (lo hi : Int) (l : List S54) (x : Int) : x ∈ changesL lo hi l ↔ x ∈ changesC lo hi l := by
  unfold changesL
  rw [(compact_up _ (sort_up _)).2, List.mem_mergeSort]
/-- clocks that differ as they may -/
structure Clk (lo hi : Int) : Prop where
  a : -100 ≤ lo
  b : lo ≤ hi
  c : hi ≤ 100
theorem clockB_iff {lo hi : Int} : clockB lo hi = true ↔ Clk lo hi := by
  unfold clockB
  simp only [Bool.and_eq_true, decide_eq_true_eq]
  exact ⟨fun h => ⟨h.1.1, h.1.2, h.2⟩, fun h => ⟨⟨h.a, h.b⟩, h.c⟩⟩
theorem Sign.f0 {l : List S54} (hs : Sign l) {i : Nat} (hi : i < l.length) : 0 ≤ (rd_T54 l i).f0 ∧ (rd_T54 l i).f0 ≤ 2000 := by
  refine ⟨?_, hs.max i hi⟩
  have hz := hs.z
  cases i with
  | zero => exact Int.le_of_eq hz.symm
  | succ i =>
    have := hs.lt (Nat.zero_lt_succ i) hi
    rw [show (rd_T54 l ((0 : Nat) : Int)) = rd_T54 l 0 from rfl, hz] at this
    exact Int.le_of_lt this
theorem chg_mem {l : List S54} (hs : Sign l) {lo hi : Int} (hc : Clk lo hi) (x : Int) : x ∈ changesC lo hi l ↔ x = 0 ∨ (1 ≤ x ∧ x ≤ 2000 ∧ ∃ i : Nat, 1 ≤ i ∧ i < l.length ∧ (x = (rd_T54 l i).f0 - hi ∨ x = (rd_T54 l i).f0 - lo)) := by
  unfold changesC
  rw [List.mem_cons, List.mem_flatMap]
  refine or_congr Iff.rfl ?_
  have h1 := hc.a
  have h2 := hc.b
  have h3 := hc.c
  constructor
  · rintro ⟨p, hp, hx⟩
    obtain ⟨n, hn, e⟩ := List.mem_iff_getElem.1 hp
    rw [List.length_drop] at hn
    rw [List.getElem_drop] at e
    have e' : rd_T54 l ((1 + n : Nat) : Int) = p := (rdP l (1 + n) (by omega)).trans e
    have h4 := hs.f0 (i := 1 + n) (by omega)
    rw [e'] at h4
    unfold minsP at hx
    rw [List.mem_filter, withinB_1, wrap_ok _ (by omega) (by omega), wrap_ok _ (by omega) (by omega)] at hx
    simp only [List.mem_cons, List.not_mem_nil, or_false] at hx
    exact ⟨hx.2.1, hx.2.2, 1 + n, by omega, by omega, by rw [e']; exact hx.1⟩
  · rintro ⟨h5, h6, i, h7, h8, h9⟩
    have h4 := hs.f0 (i := i) h8
    refine ⟨rd_T54 l i, ?_, ?_⟩
    · rw [rdP l i h8]
      exact List.mem_iff_getElem.2 ⟨i - 1, by rw [List.length_drop]; omega, by rw [List.getElem_drop]; congr 1; omega⟩
    · unfold minsP
      rw [List.mem_filter, withinB_1, wrap_ok _ (by omega) (by omega), wrap_ok _ (by omega) (by omega)]
      simp only [List.mem_cons, List.not_mem_nil, or_false]
      exact ⟨h9, h5, h6⟩
theorem AtI.step {l : List S54} {t : Int} {j : Nat} (h : AtI l (t - 1) j) (hn : ∀ i : Nat, 1 ≤ i → i < l.length → (rd_T54 l i).f0 ≠ t) : AtI l t j := by
  refine ⟨h.lt, ?_, fun i hi hi' => ?_⟩
  · rcases h.le with h1 | h1
    · exact .inl h1
    · exact .inr (by omega)
  · have h1 := h.gt i hi hi'
    have h2 := hn i (by omega) hi'
    omega
/-- The fair price of a minute at which no change comes is that of the minute before it. -/
theorem fair_step {l : List S54} (hs : Sign l) {lo hi m : Int} (hc : Clk lo hi) (h1 : 1 ≤ m) (h2 : m ≤ 2000) (hm : m ∉ changesC lo hi l) : pole_fair.f l lo hi m = pole_fair.f l lo hi (m - 1) := by
  have ha := hc.a
  have hb := hc.b
  have hcc := hc.c
  rw [chg_mem hs hc] at hm
  have hn : ∀ t, (t = m + lo ∨ t = m + hi) → ∀ i : Nat, 1 ≤ i → i < l.length → (rd_T54 l i).f0 ≠ t := by
    intro t ht i hi1 hi2 e
    refine hm (.inr ⟨h1, h2, i, hi1, hi2, ?_⟩)
    rcases ht with ht | ht
    · exact .inr (by omega)
    · exact .inl (by omega)
  obtain ⟨i, hi1, hi2⟩ := at_ex l (m - 1 + lo) hs.pos hs.le
  obtain ⟨j, hj1, hj2⟩ := at_ex l (m - 1 + hi) hs.pos hs.le
  have hi3 : AtI l (m + lo) i := AtI.step (by rw [show m + lo - 1 = m - 1 + lo by omega]; exact hi1) (hn _ (.inl rfl))
  have hj3 : AtI l (m + hi) j := AtI.step (by rw [show m + hi - 1 = m - 1 + hi by omega]; exact hj1) (hn _ (.inr rfl))
  unfold pole_fair.f
  rw [wrap_ok (m + lo) (by omega) (by omega), wrap_ok (m + hi) (by omega) (by omega), wrap_ok (m - 1 + lo) (by omega) (by omega), wrap_ok (m - 1 + hi) (by omega) (by omega), hi2 100 (by omega), hj2 100 (by omega), pole_at_eq hi3 hs.le 100 (by omega), pole_at_eq hj3 hs.le 100 (by omega)]
/-- the fair price of a minute -/
def fairV (l : List S54) (lo hi m : Int) : Int := (pole_fair.f l lo hi m).getD 0
theorem fairV_some {l : List S54} (hs : Sign l) {lo hi m : Int} (hc : Clk lo hi) (h1 : -10000 ≤ m) (h2 : m ≤ 10000) : pole_fair.f l lo hi m = some (fairV l lo hi m) ∧ FairV l lo hi m (fairV l lo hi m) := by
  obtain ⟨v, h3, h4⟩ := fair_eq hs hc.a hc.b hc.c h1 h2
  have : fairV l lo hi m = v := by unfold fairV; rw [h3]; rfl
  rw [this]
  exact ⟨h3, h4⟩
theorem fairV_step {l : List S54} (hs : Sign l) {lo hi m : Int} (hc : Clk lo hi) (h1 : 1 ≤ m) (h2 : m ≤ 2000) (hm : m ∉ changesC lo hi l) : fairV l lo hi m = fairV l lo hi (m - 1) := by
  unfold fairV
  rw [fair_step hs hc h1 h2 hm]
theorem atV_step {l : List S54} (hs : Sign l) {m : Int} (hm : m ∉ l.map (·.f0)) : atV l m = atV l (m - 1) := by
  obtain ⟨i, hi1, _⟩ := at_ex l (m - 1) hs.pos hs.le
  rw [hi1.val hs.le, AtI.val (AtI.step hi1 ?_) hs.le]
  intro j _ hj e
  exact hm (List.mem_map.2 ⟨_, List.getElem_mem hj, by rw [← rdP l j hj]; exact e⟩)
end Go.Proofs.Ytcgdbjojjpoegaa.P

namespace Go.Proofs.Ytcgdbjojjpoegaa.P
open Go.RowKit Go.Proofs.YtcgdbjojjpoegaaW.PrintWords Go.Proofs.YtcgdbjojjpoegaaW.PrintLast Go.Proofs.YtcgdbjojjpoegaaW.PrintMore
attribute [local go_sem] max2_int min2_int max_two min_two max_three min_three max_four min_four   -- for this text's walks alone
set_option linter.unusedVariables false
set_option linter.unusedSimpArgs false

/-! ### forecourtref09_fair: function 61 -/
mutual
def forecourtref09_fair.l0 : Nat → List (S54) → List Int → Int → Int → Int → Option (List Int)
  | 0, _, _, _, _, _ => none
  | k + 1, x0, x5, x6, x419000, x419001 => if x6 ≤ 2100 then ((forecourtref09_At.f k x0 x6).bind fun t419 => (if x5.length < 17592186044416 then (forecourtref09_fair.l0 k x0 (x5 ++ [t419]) (wrap64 (x6 + 1)) x419000 x419001) else (none))) else (forecourtref09_fair.l1 k x5 ([] : List Int) 0 x419000 x419001)
def forecourtref09_fair.l1 : Nat → List Int → List Int → Int → Int → Int → Option (List Int)
  | 0, _, _, _, _, _ => none
  | k + 1, x5, x7, x8, x419000, x419001 => if x8 ≤ 2000 then (if 0 ≤ (wrap64 ((wrap64 (x8 + x419000)) + 100)) then (if (wrap64 ((wrap64 (x8 + x419000)) + 100)) < (x5.length : Int) then (forecourtref09_fair.l2 k x5 x7 x8 (rd x5 (wrap64 ((wrap64 (x8 + x419000)) + 100))) (wrap64 (x8 + x419000)) x419000 x419001) else (none)) else (none)) else (some x7)
def forecourtref09_fair.l2 : Nat → List Int → List Int → Int → Int → Int → Int → Int → Option (List Int)
  | 0, _, _, _, _, _, _, _ => none
  | k + 1, x5, x7, x8, x9, x10, x419000, x419001 => if x10 ≤ (wrap64 (x8 + x419001)) then (if 0 ≤ (wrap64 (x10 + 100)) then (if (wrap64 (x10 + 100)) < (x5.length : Int) then (forecourtref09_fair.l2 k x5 x7 x8 (mn x9 (rd x5 (wrap64 (x10 + 100)))) (wrap64 (x10 + 1)) x419000 x419001) else (none)) else (none)) else (if x7.length < 17592186044416 then (forecourtref09_fair.l1 k x5 (x7 ++ [x9]) (wrap64 (x8 + 1)) x419000 x419001) else (none))
end
def forecourtref09_fair.f (k : Nat) (l0 : List (S54)) (a1_0 : Int) (a1_1 : Int) : Option (List Int) := forecourtref09_fair.l0 k l0 ([] : List Int) (-100) a1_0 a1_1
set_option maxHeartbeats 8000000 in
set_option maxRecDepth 100000 in
theorem forecourtref09_fair.calls (k : Nat) (A0 : Option Addr) (c0 : Nat) (l0 : List (S54)) (a1_0 : Int) (a1_1 : Int) (r : List Int) (w : World) (hr0 : Kd.C k54 w A0 l0.length l0) (hc0 : l0.length ≤ c0) (h : forecourtref09_fair.f k l0 a1_0 a1_1 = some r) :
    Calls Try.prog 61 #[.slice A0 l0.length c0, .agg #[.int .i64 a1_0, .int .i64 a1_1]] w fun e w' => ∃ v0_ : Value, e = .returned (v0_) ∧ Kd.R (Kd.int .i64) 2 w' w.heap.size (fun _ => True) v0_ r ∧ Below w.heap.size w w' := by
  have hu24 := Try.underlying24
  have HR0 := Aside0.mk hr0
  have HC0 := Aside0.mk hc0
  clear hr0 hc0
  have HB := Aside0.mk (Below.refl w.heap.size w)
  have H : (forecourtref09_fair.l0 k l0 ([] : List Int) (-100) a1_0 a1_1) = some r := h
  clear h
  have H' := Aside0.mk H
  clear H
  go_enter Try.func61, Try.ntmps61
  go_wp2_with (first | ((with_reducible refine gate_dst (N := 3) rfl ?_); refine bx_ (cs := #[.int .i64 a1_0, .int .i64 a1_1]) (t := 24) (fun gb418 w3 BK418 GE418 HB => ?_)))
  go_loopg [5, 6] k (fun kq v5 v6 w' => ∃ (x5_1 : List Int) (x6_1 : Int), v6 = .int .i64 x6_1 ∧ Aside0 (forecourtref09_fair.l0 kq l0 x5_1 x6_1 a1_0 a1_1 = some r) ∧ Aside0 (kq ≤ k) ∧ Aside0 (Kd.R (Kd.int .i64) 2 w' w.heap.size (fun _ => True) v5 x5_1) ∧ Aside0 (w'.heap[gb418]? = some (.cells #[.int .i64 a1_0, .int .i64 a1_1] 24 (0, 0))) ∧ Aside0 (Below w.heap.size w w'))
  case atStart => exact ⟨(([] : List Int)), ((-100)), b5_, H', ⟨Nat.le_refl _⟩, ⟨b22_⟩, ⟨b29_⟩, ⟨b1_⟩⟩
  clear H'
  try clear p2
  obtain ⟨x5_1, x6_1, rfl, HA, HK1, HO_5, BK418, HB⟩ := hrel
  cases gk with
  | zero => exact absurd HA.out (by simp [forecourtref09_fair.l0])
  | succ k1 => ?_
  have H := HA.out
  clear HA
  simp only [forecourtref09_fair.l0] at H
  by_cases c4 : x6_1 ≤ 2100
  · rw [if_pos c4] at H
    have c4b0 : decide (x6_1 ≤ 2100) = true := decide_eq_true c4
    clear c4
    replace H := Option.bind_eq_some_iff.mp H
    obtain ⟨t419, A50, H⟩ := H
    replace H : (if x5_1.length < 17592186044416 then (forecourtref09_fair.l0 k1 l0 (x5_1 ++ [t419]) (wrap64 (x6_1 + 1)) a1_0 a1_1) else (none)) = some r := H
    have A5 := Aside0.mk A50
    clear A50
    by_cases c6 : x5_1.length < 17592186044416
    rotate_left
    · rw [if_neg c6] at H
      exact absurd H (by simp)
    rw [if_pos c6] at H
    have LMc6 := Aside0.mk c6
    clear c6
    obtain ⟨y420, hy420⟩ : ∃ y_ : List Int, y_ = (x5_1 ++ [t419]) := ⟨_, rfl⟩
    replace H : (forecourtref09_fair.l0 k1 l0 y420 (wrap64 (x6_1 + 1)) a1_0 a1_1) = some r := by first | (rw [hy420]; with_reducible exact H) | (have H2_ := (Option.bind_some _ _).symm.trans H; rw [hy420]; with_reducible exact H2_) | (have H2_ := (Option.bind_some _ _).symm.trans H; with_reducible exact H2_) | with_reducible exact H | (rw [hy420]; exact H) | exact H
    have Ny420 := Aside0.mk hy420
    clear hy420
    have H' := Aside0.mk H
    clear H
    go_wp2_with (first | ((with_reducible refine gate_callee (f := 36) rfl ?_); refine goesL_ (some 18) rfl rfl Try.func36 (by kernel_rfl) rfl #[.slice A0 l0.length c0, .int .i64 x6_1] rfl b3_ ?_; (with_reducible refine (forecourtref09_At.calls k1 _ _ l0 x6_1 t419 _ ?side1 ?side2 A5.out).mono ?_); (case side1 => repeat (first | exact (Kd.C_below HR0.out HB.out) | (with_reducible refine Kd.C_alloc ?_ _) | (with_reducible refine Kd.C_drewN ?_ _) | (with_reducible refine Kd.C_drew ?_))); (case side2 => exact HC0.out); rintro e w' ⟨rfl, ⟨nd, rfl⟩⟩; refine ⟨_, rfl, ?_⟩) | ((with_reducible refine gate_builtin (b := .append) (xs := #[.tmp 15, .tmp 19]) rfl ?_); at_builtin; refine Kd.R_append (Kd.int .i64) (w0 := w) w.heap.size rfl (.tmp 15) (.tmp 19) 48 2 (.int .i64 0) 8 rfl Try.underlying48 info2 rfl (by decide) (by omega) u5 x5_1 t419 [.int .i64 t419] (fun _ => True) (fun _ => False) rfl rfl ?aP (fun _ hk => hk.elim) ?aF ?aO ?aB ?aS ?aL ?_; (case aP => exact rfl); (case aB => exact b1_); (case aF => exact (fun _ _ => trivial)); (case aO => exact b10_); (case aS => exact (below_size b1_)); (case aL => have := LMc6.out; omega); intro v421 w7 ho hb hg hat; rw [← Ny420.out] at ho; replace BK418 := Aside0.mk (blk_grown (g := gb418) (o := .cells #[.int .i64 a1_0, .int .i64 a1_1] 24 (0, 0)) b19_ hg (Kd.R_ne HO_5.out BK418.out (by decide))); replace HB := Aside0.mk (hb); have HO422 := Aside0.mk (ho); clear HO_5; clear ho hb hg hat))
    go_roundg k1
    case measure => have := HK1.out; omega
    case rel => exact ⟨(y420), (wrap64 (x6_1 + 1)), b5_, H', ⟨(by have := HK1.out; omega)⟩, ⟨(by (with_reducible repeat (first | apply Kd.R_alloc | apply Kd.R_drewN | apply Kd.R_drew)); exact HO422.out)⟩, ⟨b29_⟩, ⟨b1_⟩⟩
  rw [if_neg c4] at H
  have c4b0 : decide (x6_1 ≤ 2100) = false := decide_eq_false c4
  clear c4
  have H' := Aside0.mk H
  clear H
  go_wp2
  go_loopg [7, 8] k1 (fun kq v7 v8 w' => ∃ (x7_2 : List Int) (x8_2 : Int), v8 = .int .i64 x8_2 ∧ Aside0 (forecourtref09_fair.l1 kq x5_1 x7_2 x8_2 a1_0 a1_1 = some r) ∧ Aside0 (kq ≤ k1) ∧ Aside0 (Kd.R (Kd.int .i64) 2 w' w.heap.size (fun k_ => some k_ ≠ (v7 : Value).ownBlock) u5 x5_1) ∧ Aside0 (Kd.R (Kd.int .i64) 2 w' w.heap.size (fun k_ => some k_ ≠ (u5 : Value).ownBlock) v7 x7_2) ∧ Aside0 (w'.heap[gb418]? = some (.cells #[.int .i64 a1_0, .int .i64 a1_1] 24 (0, 0))) ∧ Aside0 (Below w.heap.size w w'))
  case atStart => exact ⟨(([] : List Int)), (0), b5_, H', ⟨Nat.le_refl _⟩, ⟨(by (with_reducible repeat (first | apply Kd.R_alloc | apply Kd.R_drewN | apply Kd.R_drew)); exact Kd.R_mono HO_5.out (fun _ hk => (by simp [Value.ownBlock])))⟩, ⟨b22_⟩, ⟨b29_⟩, ⟨b1_⟩⟩
  clear H'
  try clear p2
  try clear c3
  try clear c4
  try clear c4b0
  try clear c6
  try clear p6
  try clear p2
  obtain ⟨x7_2, x8_2, rfl, HA, HK2, HO_5, HO_7, BK418, HB⟩ := hrel
  cases gk with
  | zero => exact absurd HA.out (by simp [forecourtref09_fair.l1])
  | succ k2 => ?_
  have H := HA.out
  clear HA
  simp only [forecourtref09_fair.l1] at H
  by_cases c8 : x8_2 ≤ 2000
  rotate_left
  · rw [if_neg c8] at H
    have c8b0 : decide (x8_2 ≤ 2000) = false := decide_eq_false c8
    clear c8
    obtain rfl := Option.some.inj H
    go_wp2
    go_ret
    exact ⟨_, b4_, (by (with_reducible repeat (first | apply Kd.R_alloc | apply Kd.R_drewN | apply Kd.R_drew)); exact Kd.R_mono HO_7.out (fun _ hk => trivial)), b1_⟩
  rw [if_pos c8] at H
  have c8b0 : decide (x8_2 ≤ 2000) = true := decide_eq_true c8
  clear c8
  obtain ⟨ji9, hji9⟩ : ∃ j_ : Int, (wrap64 ((wrap64 (x8_2 + a1_0)) + 100)) = j_ := ⟨_, rfl⟩
  replace H : (if 0 ≤ (ji9) then (if (ji9) < (x5_1.length : Int) then (forecourtref09_fair.l2 k2 x5_1 x7_2 x8_2 (rd x5_1 (ji9)) (wrap64 (x8_2 + a1_0)) a1_0 a1_1) else (none)) else (none)) = some r := by first | (rw [hji9] at H; exact H) | (simp only [hji9] at H ⊢; exact H)
  have hji9w : (IntKind.i64.wrap ((wrap64 (x8_2 + a1_0)) + 100)) = ji9 := (i64_w _).trans hji9
  by_cases c10 : 0 ≤ (ji9)
  rotate_left
  · rw [if_neg c10] at H
    exact absurd H (by simp)
  rw [if_pos c10] at H
  have c10b0 : decide (0 ≤ (ji9)) = true := decide_eq_true c10
  clear c10
  by_cases c11 : (ji9) < (x5_1.length : Int)
  rotate_left
  · rw [if_neg c11] at H
    exact absurd H (by simp)
  rw [if_pos c11] at H
  have c11b0 : decide ((ji9) < (x5_1.length : Int)) = true := decide_eq_true c11
  clear c11
  have H' := Aside0.mk H
  clear H
  obtain ⟨hcz12_0, hcz12_1, hfz12_0, hfz12_1⟩ := cz2_ BK418.out
  obtain ⟨Ao13, co13, eo13⟩ := Kd.R_slice HO_5.out
  subst eo13
  have p423 : 0 ≤ ((ji9) : Int) := of_decide_eq_true b2_
  have q423 : (ji9) < (x5_1.length : Int) := of_decide_eq_true b2_
  obtain ⟨ad423, e423, hx423_0⟩ := Kd.at_int (Kd.R_reads' HO_5.out).2.2 (ji9) p423 q423
  cases e423
  replace p423 := eq_true p423
  replace q423 := eq_true q423
  go_wp2
  go_loopg [9, 10] k2 (fun kq v9 v10 w' => ∃ (x9_3 : Int) (x10_3 : Int), v9 = .int .i64 x9_3 ∧ v10 = .int .i64 x10_3 ∧ Aside0 (forecourtref09_fair.l2 kq x5_1 x7_2 x8_2 x9_3 x10_3 a1_0 a1_1 = some r) ∧ Aside0 (kq ≤ k2) ∧ Aside0 (Kd.R (Kd.int .i64) 2 w' w.heap.size (fun k_ => some k_ ≠ (u7 : Value).ownBlock) (.slice (some ad423) x5_1.length co13) x5_1) ∧ Aside0 (Kd.R (Kd.int .i64) 2 w' w.heap.size (fun k_ => some k_ ≠ ((.slice (some ad423) x5_1.length co13) : Value).ownBlock) u7 x7_2) ∧ Aside0 (w'.heap[gb418]? = some (.cells #[.int .i64 a1_0, .int .i64 a1_1] 24 (0, 0))) ∧ Aside0 (Below w.heap.size w w'))
  case atStart => exact ⟨(rd x5_1 (ji9)), (wrap64 (x8_2 + a1_0)), (by first | rfl | (simp; done) | (simp only [← hji9] <;> (first | rfl | simp)) | (simp [*]; done)), b5_, H', ⟨Nat.le_refl _⟩, ⟨b25_⟩, ⟨b18_⟩, ⟨b29_⟩, ⟨b1_⟩⟩
  clear H'
  try clear c1
  try clear p2
  try clear c3
  try clear c4
  try clear c4b0
  try clear p4
  try clear q4
  try clear hx4
  try clear c6
  try clear p6
  try clear c8
  try clear c8b0
  try clear c10
  try clear c10b0
  try clear c11
  try clear c11b0
  try clear hcz12_0
  try clear hcz12_1
  try clear hfz12_0
  try clear hfz12_1
  try clear hx423_0
  try clear p2
  try clear p423
  try clear p6
  try clear q423
  obtain ⟨x9_3, x10_3, rfl, rfl, HA, HK3, HO_5, HO_7, BK418, HB⟩ := hrel
  cases gk with
  | zero => exact absurd HA.out (by simp [forecourtref09_fair.l2])
  | succ k3 => ?_
  have H := HA.out
  clear HA
  simp only [forecourtref09_fair.l2] at H
  by_cases c14 : x10_3 ≤ (wrap64 (x8_2 + a1_1))
  · rw [if_pos c14] at H
    have c14b0 : decide (x10_3 ≤ (wrap64 (x8_2 + a1_1))) = true := decide_eq_true c14
    clear c14
    obtain ⟨ji15, hji15⟩ : ∃ j_ : Int, (wrap64 (x10_3 + 100)) = j_ := ⟨_, rfl⟩
    replace H : (if 0 ≤ (ji15) then (if (ji15) < (x5_1.length : Int) then (forecourtref09_fair.l2 k3 x5_1 x7_2 x8_2 (mn x9_3 (rd x5_1 (ji15))) (wrap64 (x10_3 + 1)) a1_0 a1_1) else (none)) else (none)) = some r := by first | (rw [hji15] at H; exact H) | (simp only [hji15] at H ⊢; exact H)
    have hji15w : (IntKind.i64.wrap (x10_3 + 100)) = ji15 := (i64_w _).trans hji15
    by_cases c16 : 0 ≤ (ji15)
    rotate_left
    · rw [if_neg c16] at H
      exact absurd H (by simp)
    rw [if_pos c16] at H
    have c16b0 : decide (0 ≤ (ji15)) = true := decide_eq_true c16
    clear c16
    by_cases c17 : (ji15) < (x5_1.length : Int)
    rotate_left
    · rw [if_neg c17] at H
      exact absurd H (by simp)
    rw [if_pos c17] at H
    have c17b0 : decide ((ji15) < (x5_1.length : Int)) = true := decide_eq_true c17
    clear c17
    obtain ⟨ji18, hji18⟩ : ∃ j_ : Int, (mn x9_3 (rd x5_1 (ji15))) = j_ := ⟨_, rfl⟩
    replace H : (forecourtref09_fair.l2 k3 x5_1 x7_2 x8_2 ji18 (wrap64 (x10_3 + 1)) a1_0 a1_1) = some r := by first | (rw [hji18] at H; exact H) | (simp only [hji18] at H ⊢; exact H)
    have hji18_ : (if (rd x5_1 (ji15)) < x9_3 then (rd x5_1 (ji15)) else x9_3) = ji18 := hji18
    have H' := Aside0.mk H
    clear H
    obtain ⟨hcz19_0, hcz19_1, hfz19_0, hfz19_1⟩ := cz2_ BK418.out
    have p424 : 0 ≤ ((ji15) : Int) := of_decide_eq_true b2_
    have q424 : (ji15) < (x5_1.length : Int) := of_decide_eq_true b2_
    obtain ⟨ad424, e424, hx424_0⟩ := Kd.at_int (Kd.R_reads' HO_5.out).2.2 (ji15) p424 q424
    obtain rfl : ad423 = ad424 := (by injection e424)
    replace p424 := eq_true p424
    replace q424 := eq_true q424
    go_wp2
    go_roundg k3
    case measure => have := HK1.out; have := HK2.out; have := HK3.out; omega
    case rel => exact ⟨(ji18), (wrap64 (x10_3 + 1)), (by first | rfl | (simp; done) | (simp only [← hji18] <;> (first | rfl | simp)) | (simp [*]; done)), b5_, H', ⟨(by have := HK1.out; have := HK2.out; have := HK3.out; omega)⟩, ⟨b25_⟩, ⟨b18_⟩, ⟨b29_⟩, ⟨b1_⟩⟩
  rw [if_neg c14] at H
  have c14b0 : decide (x10_3 ≤ (wrap64 (x8_2 + a1_1))) = false := decide_eq_false c14
  clear c14
  by_cases c20 : x7_2.length < 17592186044416
  rotate_left
  · rw [if_neg c20] at H
    exact absurd H (by simp)
  rw [if_pos c20] at H
  have LMc20 := Aside0.mk c20
  clear c20
  obtain ⟨y425, hy425⟩ : ∃ y_ : List Int, y_ = (x7_2 ++ [x9_3]) := ⟨_, rfl⟩
  replace H : (forecourtref09_fair.l1 k3 x5_1 y425 (wrap64 (x8_2 + 1)) a1_0 a1_1) = some r := by first | (rw [hy425]; with_reducible exact H) | (have H2_ := (Option.bind_some _ _).symm.trans H; rw [hy425]; with_reducible exact H2_) | (have H2_ := (Option.bind_some _ _).symm.trans H; with_reducible exact H2_) | with_reducible exact H | (rw [hy425]; exact H) | exact H
  have Ny425 := Aside0.mk hy425
  clear hy425
  have H' := Aside0.mk H
  clear H
  obtain ⟨hcz21_0, hcz21_1, hfz21_0, hfz21_1⟩ := cz2_ BK418.out
  go_wp2_with (first | ((with_reducible refine gate_builtin (b := .append) (xs := #[.tmp 52, .tmp 54]) rfl ?_); at_builtin; refine Kd.R_append (Kd.int .i64) (w0 := w) w.heap.size rfl (.tmp 52) (.tmp 54) 48 2 (.int .i64 0) 8 rfl Try.underlying48 info2 rfl (by decide) (by omega) u7 x7_2 x9_3 [.int .i64 x9_3] (fun k_ => some k_ ≠ (.slice (some ad423) x5_1.length co13 : Value).ownBlock) (fun _ => False) rfl rfl ?aP (fun _ hk => hk.elim) ?aF ?aO ?aB ?aS ?aL ?_; (case aP => exact rfl); (case aB => exact b1_); (case aF => exact (fun k_ hk => Kd.fresh' (Kd.R_lt b25_) k_ hk)); (case aO => exact b10_); (case aS => exact (below_size b1_)); (case aL => have := LMc20.out; omega); intro v426 w22 ho hb hg hat; rw [← Ny425.out] at ho; replace HO_5 := Aside0.mk (Kd.R_after (ok := (fun _ => True)) (by (with_reducible repeat (first | apply Kd.R_alloc | apply Kd.R_drewN | apply Kd.R_drew)); exact Kd.R_mono HO_5.out (fun _ hk => ⟨trivial, hk⟩)) hg hat); replace BK418 := Aside0.mk (blk_grown (g := gb418) (o := .cells #[.int .i64 a1_0, .int .i64 a1_1] 24 (0, 0)) b19_ hg (Kd.R_ne HO_7.out BK418.out (by decide))); replace HB := Aside0.mk (hb); have HO427 := Aside0.mk (ho); clear HO_7; clear ho hb hg hat))
  go_roundg k3
  case measure => have := HK1.out; have := HK2.out; have := HK3.out; omega
  case rel => exact ⟨(y425), (wrap64 (x8_2 + 1)), b5_, H', ⟨(by have := HK1.out; have := HK2.out; have := HK3.out; omega)⟩, ⟨(by (with_reducible repeat (first | apply Kd.R_alloc | apply Kd.R_drewN | apply Kd.R_drew)); exact Kd.R_mono HO_5.out (fun _ hk => hk.2))⟩, ⟨(by (with_reducible repeat (first | apply Kd.R_alloc | apply Kd.R_drewN | apply Kd.R_drew)); exact HO427.out)⟩, ⟨b29_⟩, ⟨b1_⟩⟩

end Go.Proofs.Ytcgdbjojjpoegaa.P

namespace Go.Proofs.Ytcgdbjojjpoegaa.P
open Go.RowKit Go.Proofs.YtcgdbjojjpoegaaW.PrintWords Go.Proofs.YtcgdbjojjpoegaaW.PrintLast Go.Proofs.YtcgdbjojjpoegaaW.PrintMore
attribute [local go_sem] max2_int min2_int max_two min_two max_three min_three max_four min_four   -- for this text's walks alone
set_option linter.unusedVariables false
set_option linter.unusedSimpArgs false

/-! ### forecourtref09_Cheat: function 23 -/
def forecourtref09_Cheat.l0 : Nat → List (S54) → List Int → Int → Option (Int × Int)
  | 0, _, _, _ => none
  | k + 1, x1, x8, x9 => if x9 ≤ 2000 then ((forecourtref09_At.f k x1 x9).bind fun t437 => (if 0 ≤ x9 then (if x9 < (x8.length : Int) then (if t437 > (rd x8 x9) then (some (x9, 0)) else (forecourtref09_Cheat.l0 k x1 x8 (wrap64 (x9 + 1)))) else (none)) else (none))) else (some (0, 5))
def forecourtref09_Cheat.f (k : Nat) (l0 : List (S54)) (l1 : List (S54)) (a2_0 : Int) (a2_1 : Int) : Option (Int × Int) := (forecourtref09_CheckSign.f k l0).bind fun t429 => (if t429 = 0 then ((forecourtref09_CheckSign.f k l1).bind fun t431 => (if t431 = 0 then ((forecourtref09_IsClocks.f a2_0 a2_1).bind fun t433 => (if t433 = true then ((forecourtref09_fair.f k l0 a2_0 a2_1).bind fun t434 => (forecourtref09_Cheat.l0 k l1 t434 0)) else (some (0, 2)))) else ((forecourtref09_CheckSign.f k l1).bind fun t432 => (some (0, t432))))) else ((forecourtref09_CheckSign.f k l0).bind fun t430 => (some (0, t430))))
set_option maxHeartbeats 8000000 in
set_option maxRecDepth 100000 in
theorem forecourtref09_Cheat.calls (k : Nat) (A0 : Option Addr) (c0 : Nat) (l0 : List (S54)) (A1 : Option Addr) (c1 : Nat) (l1 : List (S54)) (a2_0 : Int) (a2_1 : Int) (r1 : Int) (r2 : Int) (w : World) (hr0 : Kd.C k54 w A0 l0.length l0) (hc0 : l0.length ≤ c0) (hr1 : Kd.C k54 w A1 l1.length l1) (hc1 : l1.length ≤ c1) (h : forecourtref09_Cheat.f k l0 l1 a2_0 a2_1 = some (r1, r2)) :
    Calls Try.prog 23 #[.slice A0 l0.length c0, .slice A1 l1.length c1, .agg #[.int .i64 a2_0, .int .i64 a2_1]] w fun e w' => e = .returned (.tuple #[.int .i64 r1, .int .i64 r2]) ∧ Below w.heap.size w w' := by
  have hu24 := Try.underlying24
  have HR0 := Aside0.mk hr0
  have HC0 := Aside0.mk hc0
  clear hr0 hc0
  have HR1 := Aside0.mk hr1
  have HC1 := Aside0.mk hc1
  clear hr1 hc1
  have HB := Aside0.mk (Below.refl w.heap.size w)
  have H : ((forecourtref09_CheckSign.f k l0).bind fun t429 => (if t429 = 0 then ((forecourtref09_CheckSign.f k l1).bind fun t431 => (if t431 = 0 then ((forecourtref09_IsClocks.f a2_0 a2_1).bind fun t433 => (if t433 = true then ((forecourtref09_fair.f k l0 a2_0 a2_1).bind fun t434 => (forecourtref09_Cheat.l0 k l1 t434 0)) else (some (0, 2)))) else ((forecourtref09_CheckSign.f k l1).bind fun t432 => (some (0, t432))))) else ((forecourtref09_CheckSign.f k l0).bind fun t430 => (some (0, t430))))) = some (r1, r2) := h
  clear h
  replace H := Option.bind_eq_some_iff.mp H
  obtain ⟨t429, A40, H⟩ := H
  replace H : (if t429 = 0 then ((forecourtref09_CheckSign.f k l1).bind fun t431 => (if t431 = 0 then ((forecourtref09_IsClocks.f a2_0 a2_1).bind fun t433 => (if t433 = true then ((forecourtref09_fair.f k l0 a2_0 a2_1).bind fun t434 => (forecourtref09_Cheat.l0 k l1 t434 0)) else (some (0, 2)))) else ((forecourtref09_CheckSign.f k l1).bind fun t432 => (some (0, t432))))) else ((forecourtref09_CheckSign.f k l0).bind fun t430 => (some (0, t430)))) = some (r1, r2) := H
  have A4 := Aside0.mk A40
  clear A40
  by_cases c5 : t429 = 0
  rotate_left
  · rw [if_neg c5] at H
    have c5b0 : (t429 == 0) = false := beq_eq_false_iff_ne.mpr c5
    have c5b1 : (t429 != 0) = true := bne_iff_ne.mpr c5
    replace H := Option.bind_eq_some_iff.mp H
    obtain ⟨t430, A280, H⟩ := H
    have H_EQ := Aside0.mk (show t429 = t430 from Option.some.inj (A4.out.symm.trans A280))
    replace H : (some (0, t430)) = some (r1, r2) := H
    have A28 := Aside0.mk A280
    clear A280
    simp only [Option.some.injEq, Prod.mk.injEq] at H
    obtain ⟨rfl, rfl⟩ := H
    go_enter Try.func23, Try.ntmps23
    go_wp2_with (first | ((with_reducible refine gate_dst (N := 5) rfl ?_); refine bx_ (cs := #[.int .i64 a2_0, .int .i64 a2_1]) (t := 24) (fun gb428 w29 BK428 GE428 HB => ?_)) | (go_at_call 21; (with_reducible refine (forecourtref09_CheckSign.calls k _ _ l0 t429 _ ?side1 ?side2 A4.out).mono ?_); (case side1 => repeat (first | exact (Kd.C_below HR0.out HB.out) | (with_reducible refine Kd.C_alloc ?_ _) | (with_reducible refine Kd.C_drewN ?_ _) | (with_reducible refine Kd.C_drew ?_))); (case side2 => exact HC0.out); rintro e w' ⟨rfl, ⟨nd, rfl⟩⟩; (try exact dd_)) | (go_at_call 21; (with_reducible refine (forecourtref09_CheckSign.calls k _ _ l0 t430 _ ?side1 ?side2 A28.out).mono ?_); (case side1 => repeat (first | exact (Kd.C_below HR0.out b1_) | (with_reducible refine Kd.C_alloc ?_ _) | (with_reducible refine Kd.C_drewN ?_ _) | (with_reducible refine Kd.C_drew ?_))); (case side2 => exact HC0.out); rintro e w' ⟨rfl, ⟨nd, rfl⟩⟩; (try exact dd_)))
    go_ret2
    obtain rfl := H_EQ.out
    exact ⟨b4_, b1_⟩
  rw [if_pos c5] at H
  have c5b0 : (t429 == 0) = true := beq_iff_eq.mpr c5
  have c5b1 : (t429 != 0) = false := bne_eq_false_iff_eq.mpr c5
  clear c5
  replace H := Option.bind_eq_some_iff.mp H
  obtain ⟨t431, A60, H⟩ := H
  replace H : (if t431 = 0 then ((forecourtref09_IsClocks.f a2_0 a2_1).bind fun t433 => (if t433 = true then ((forecourtref09_fair.f k l0 a2_0 a2_1).bind fun t434 => (forecourtref09_Cheat.l0 k l1 t434 0)) else (some (0, 2)))) else ((forecourtref09_CheckSign.f k l1).bind fun t432 => (some (0, t432)))) = some (r1, r2) := H
  have A6 := Aside0.mk A60
  clear A60
  by_cases c7 : t431 = 0
  rotate_left
  · rw [if_neg c7] at H
    have c7b0 : (t431 == 0) = false := beq_eq_false_iff_ne.mpr c7
    have c7b1 : (t431 != 0) = true := bne_iff_ne.mpr c7
    replace H := Option.bind_eq_some_iff.mp H
    obtain ⟨t432, A260, H⟩ := H
    have H_EQ := Aside0.mk (show t431 = t432 from Option.some.inj (A6.out.symm.trans A260))
    replace H : (some (0, t432)) = some (r1, r2) := H
    have A26 := Aside0.mk A260
    clear A260
    simp only [Option.some.injEq, Prod.mk.injEq] at H
    obtain ⟨rfl, rfl⟩ := H
    go_enter Try.func23, Try.ntmps23
    go_wp2_with (first | ((with_reducible refine gate_dst (N := 5) rfl ?_); refine bx_ (cs := #[.int .i64 a2_0, .int .i64 a2_1]) (t := 24) (fun gb428 w27 BK428 GE428 HB => ?_)) | (go_at_call 21; (with_reducible refine (forecourtref09_CheckSign.calls k _ _ l0 t429 _ ?side1 ?side2 A4.out).mono ?_); (case side1 => repeat (first | exact (Kd.C_below HR0.out HB.out) | (with_reducible refine Kd.C_alloc ?_ _) | (with_reducible refine Kd.C_drewN ?_ _) | (with_reducible refine Kd.C_drew ?_))); (case side2 => exact HC0.out); rintro e w' ⟨rfl, ⟨nd, rfl⟩⟩; (try exact dd_)) | (go_at_call 21; (with_reducible refine (forecourtref09_CheckSign.calls k _ _ l1 t431 _ ?side1 ?side2 A6.out).mono ?_); (case side1 => repeat (first | exact (Kd.C_below HR1.out b1_) | (with_reducible refine Kd.C_alloc ?_ _) | (with_reducible refine Kd.C_drewN ?_ _) | (with_reducible refine Kd.C_drew ?_))); (case side2 => exact HC1.out); rintro e w' ⟨rfl, ⟨nd, rfl⟩⟩; (try exact dd_)) | (go_at_call 21; (with_reducible refine (forecourtref09_CheckSign.calls k _ _ l1 t432 _ ?side1 ?side2 A26.out).mono ?_); (case side1 => repeat (first | exact (Kd.C_below HR1.out b1_) | (with_reducible refine Kd.C_alloc ?_ _) | (with_reducible refine Kd.C_drewN ?_ _) | (with_reducible refine Kd.C_drew ?_))); (case side2 => exact HC1.out); rintro e w' ⟨rfl, ⟨nd, rfl⟩⟩; (try exact dd_)))
    go_ret2
    obtain rfl := H_EQ.out
    exact ⟨b4_, b1_⟩
  rw [if_pos c7] at H
  have c7b0 : (t431 == 0) = true := beq_iff_eq.mpr c7
  have c7b1 : (t431 != 0) = false := bne_eq_false_iff_eq.mpr c7
  clear c7
  replace H := Option.bind_eq_some_iff.mp H
  obtain ⟨t433, A80, H⟩ := H
  replace H : (if t433 = true then ((forecourtref09_fair.f k l0 a2_0 a2_1).bind fun t434 => (forecourtref09_Cheat.l0 k l1 t434 0)) else (some (0, 2))) = some (r1, r2) := H
  have A8 := Aside0.mk A80
  clear A80
  by_cases c9 : t433 = true
  rotate_left
  · replace c9 := Bool.eq_false_iff.mpr c9
    subst c9
    have H1 : (some (0, 2)) = some (r1, r2) := by rw [if_neg (show ¬ (false = true) by decide)] at H; exact H
    clear H
    have H := H1
    clear H1
    simp only [Option.some.injEq, Prod.mk.injEq] at H
    obtain ⟨rfl, rfl⟩ := H
    go_enter Try.func23, Try.ntmps23
    go_wp2_with (first | ((with_reducible refine gate_dst (N := 5) rfl ?_); refine bx_ (cs := #[.int .i64 a2_0, .int .i64 a2_1]) (t := 24) (fun gb428 w23 BK428 GE428 HB => ?_)) | (go_at_call 21; (with_reducible refine (forecourtref09_CheckSign.calls k _ _ l0 t429 _ ?side1 ?side2 A4.out).mono ?_); (case side1 => repeat (first | exact (Kd.C_below HR0.out HB.out) | (with_reducible refine Kd.C_alloc ?_ _) | (with_reducible refine Kd.C_drewN ?_ _) | (with_reducible refine Kd.C_drew ?_))); (case side2 => exact HC0.out); rintro e w' ⟨rfl, ⟨nd, rfl⟩⟩; (try exact dd_)) | (go_at_call 21; (with_reducible refine (forecourtref09_CheckSign.calls k _ _ l1 t431 _ ?side1 ?side2 A6.out).mono ?_); (case side1 => repeat (first | exact (Kd.C_below HR1.out b1_) | (with_reducible refine Kd.C_alloc ?_ _) | (with_reducible refine Kd.C_drewN ?_ _) | (with_reducible refine Kd.C_drew ?_))); (case side2 => exact HC1.out); rintro e w' ⟨rfl, ⟨nd, rfl⟩⟩; (try exact dd_); obtain ⟨hcz24_0, hcz24_1, hfz24_0, hfz24_1⟩ := cz2_ BK428.out) | (go_at_call 39; (with_reducible refine (forecourtref09_IsClocks.calls a2_0 a2_1 false _ A8.out).mono ?_); rintro e w25 ⟨rfl, hb⟩; replace BK428 := bk_ BK428 hb; replace HB := hB_ HB hb; (try clear hb)))
    go_ret2
    exact ⟨b4_, b1_⟩
  subst c9
  have H1 : ((forecourtref09_fair.f k l0 a2_0 a2_1).bind fun t434 => (forecourtref09_Cheat.l0 k l1 t434 0)) = some (r1, r2) := by rw [if_pos rfl] at H; exact H
  clear H
  have H := H1
  clear H1
  replace H := Option.bind_eq_some_iff.mp H
  obtain ⟨t434, A100, H⟩ := H
  replace H : (forecourtref09_Cheat.l0 k l1 t434 0) = some (r1, r2) := H
  have A10 := Aside0.mk A100
  clear A100
  have H' := Aside0.mk H
  clear H
  go_enter Try.func23, Try.ntmps23
  go_wp2_with (first | ((with_reducible refine gate_dst (N := 5) rfl ?_); refine bx_ (cs := #[.int .i64 a2_0, .int .i64 a2_1]) (t := 24) (fun gb428 w11 BK428 GE428 HB => ?_)) | (go_at_call 21; (with_reducible refine (forecourtref09_CheckSign.calls k _ _ l0 t429 _ ?side1 ?side2 A4.out).mono ?_); (case side1 => repeat (first | exact (Kd.C_below HR0.out HB.out) | (with_reducible refine Kd.C_alloc ?_ _) | (with_reducible refine Kd.C_drewN ?_ _) | (with_reducible refine Kd.C_drew ?_))); (case side2 => exact HC0.out); rintro e w' ⟨rfl, ⟨nd, rfl⟩⟩; (try exact dd_)) | (go_at_call 21; (with_reducible refine (forecourtref09_CheckSign.calls k _ _ l1 t431 _ ?side1 ?side2 A6.out).mono ?_); (case side1 => repeat (first | exact (Kd.C_below HR1.out b1_) | (with_reducible refine Kd.C_alloc ?_ _) | (with_reducible refine Kd.C_drewN ?_ _) | (with_reducible refine Kd.C_drew ?_))); (case side2 => exact HC1.out); rintro e w' ⟨rfl, ⟨nd, rfl⟩⟩; (try exact dd_); obtain ⟨hcz12_0, hcz12_1, hfz12_0, hfz12_1⟩ := cz2_ BK428.out) | (go_at_call 39; (with_reducible refine (forecourtref09_IsClocks.calls a2_0 a2_1 true _ A8.out).mono ?_); rintro e w13 ⟨rfl, hb⟩; replace BK428 := bk_ BK428 hb; replace HB := hB_ HB hb; (try clear hb); obtain ⟨hcz14_0, hcz14_1, hfz14_0, hfz14_1⟩ := cz2_ BK428.out) | (go_at_call 61; (with_reducible refine (forecourtref09_fair.calls k _ _ l0 a2_0 a2_1 t434 _ ?side1 ?side2 A10.out).mono ?_); (case side1 => repeat (first | exact (Kd.C_below HR0.out HB.out) | (with_reducible refine Kd.C_alloc ?_ _) | (with_reducible refine Kd.C_drewN ?_ _) | (with_reducible refine Kd.C_drew ?_))); (case side2 => exact HC0.out); rintro e w15 ⟨v435, rfl, ho0, hb⟩; have HO436 := Aside0.mk (Kd.R_lower ho0 (below_size b1_)); replace BK428 := bk_ BK428 hb; replace HB := hB_ HB hb; (try clear hb)))
  go_loopg [9] k (fun kq v9 w' => ∃ (x9_1 : Int), v9 = .int .i64 x9_1 ∧ Aside0 (forecourtref09_Cheat.l0 kq l1 t434 x9_1 = some (r1, r2)) ∧ Aside0 (kq ≤ k) ∧ Aside0 (Kd.R (Kd.int .i64) 2 w' w.heap.size (fun _ => True) v435 t434) ∧ Aside0 (w'.heap[gb428]? = some (.cells #[.int .i64 a2_0, .int .i64 a2_1] 24 (0, 0))) ∧ Aside0 (Below w.heap.size w w'))
  case atStart => exact ⟨(0), b5_, H', ⟨Nat.le_refl _⟩, ⟨(by (with_reducible repeat (first | apply Kd.R_alloc | apply Kd.R_drewN | apply Kd.R_drew)); exact HO436.out)⟩, ⟨(by (with_reducible repeat (first | refine blk_drewN ?_ _ | refine blk_drew ?_ | refine blk_alloc ?_ _)); exact BK428.out)⟩, ⟨b1_⟩⟩
  clear H'
  try clear c1
  try clear c2
  try clear p2
  try clear c5
  try clear c5b0
  try clear c5b1
  try clear c7
  try clear c7b0
  try clear c7b1
  try clear c9
  try clear hcz12_0
  try clear hcz12_1
  try clear hcz14_0
  try clear hcz14_1
  try clear hfz12_0
  try clear hfz12_1
  try clear hfz14_0
  try clear hfz14_1
  obtain ⟨x9_1, rfl, HA, HK1, HO_8, BK428, HB⟩ := hrel
  cases gk with
  | zero => exact absurd HA.out (by simp [forecourtref09_Cheat.l0])
  | succ k1 => ?_
  have H := HA.out
  clear HA
  simp only [forecourtref09_Cheat.l0] at H
  by_cases c16 : x9_1 ≤ 2000
  rotate_left
  · rw [if_neg c16] at H
    have c16b0 : decide (x9_1 ≤ 2000) = false := decide_eq_false c16
    clear c16
    simp only [Option.some.injEq, Prod.mk.injEq] at H
    obtain ⟨rfl, rfl⟩ := H
    go_wp2
    go_ret2
    exact ⟨b4_, b1_⟩
  rw [if_pos c16] at H
  have c16b0 : decide (x9_1 ≤ 2000) = true := decide_eq_true c16
  clear c16
  replace H := Option.bind_eq_some_iff.mp H
  obtain ⟨t437, A170, H⟩ := H
  replace H : (if 0 ≤ x9_1 then (if x9_1 < (t434.length : Int) then (if t437 > (rd t434 x9_1) then (some (x9_1, 0)) else (forecourtref09_Cheat.l0 k1 l1 t434 (wrap64 (x9_1 + 1)))) else (none)) else (none)) = some (r1, r2) := H
  have A17 := Aside0.mk A170
  clear A170
  by_cases c18 : 0 ≤ x9_1
  rotate_left
  · rw [if_neg c18] at H
    exact absurd H (by simp)
  rw [if_pos c18] at H
  have c18b0 : decide (0 ≤ x9_1) = true := decide_eq_true c18
  clear c18
  by_cases c19 : x9_1 < (t434.length : Int)
  rotate_left
  · rw [if_neg c19] at H
    exact absurd H (by simp)
  rw [if_pos c19] at H
  have c19b0 : decide (x9_1 < (t434.length : Int)) = true := decide_eq_true c19
  clear c19
  by_cases c20 : t437 > (rd t434 x9_1)
  · rw [if_pos c20] at H
    have c20b0 : decide ((rd t434 x9_1) < t437) = true := decide_eq_true c20
    clear c20
    simp only [Option.some.injEq, Prod.mk.injEq] at H
    obtain ⟨rfl, rfl⟩ := H
    go_wp2_with (first | (go_at_call 36; (with_reducible refine (forecourtref09_At.calls k1 _ _ l1 x9_1 t437 _ ?side1 ?side2 A17.out).mono ?_); (case side1 => repeat (first | exact (Kd.C_below HR1.out HB.out) | (with_reducible refine Kd.C_alloc ?_ _) | (with_reducible refine Kd.C_drewN ?_ _) | (with_reducible refine Kd.C_drew ?_))); (case side2 => exact HC1.out); rintro e w' ⟨rfl, ⟨nd, rfl⟩⟩; (try exact dd_); obtain ⟨Ao21, co21, eo21⟩ := Kd.R_slice HO_8.out; subst eo21; have p438 : 0 ≤ (x9_1 : Int) := of_decide_eq_true b2_; have q438 : x9_1 < (t434.length : Int) := of_decide_eq_true b2_; obtain ⟨ad438, e438, hx438_0⟩ := Kd.at_int (Kd.R_reads' HO_8.out).2.2 x9_1 p438 q438; cases e438; replace p438 := eq_true p438; replace q438 := eq_true q438))
    repeat (go_quiet (first | (go_at_call 36; (with_reducible refine (forecourtref09_At.calls k1 _ _ l1 x9_1 t437 _ ?side1 ?side2 A17.out).mono ?_); (case side1 => repeat (first | exact (Kd.C_below HR1.out HB.out) | (with_reducible refine Kd.C_alloc ?_ _) | (with_reducible refine Kd.C_drewN ?_ _) | (with_reducible refine Kd.C_drew ?_))); (case side2 => exact HC1.out); rintro e w' ⟨rfl, ⟨nd, rfl⟩⟩; (try exact dd_); obtain ⟨Ao21, co21, eo21⟩ := Kd.R_slice HO_8.out; subst eo21; have p438 : 0 ≤ (x9_1 : Int) := of_decide_eq_true b2_; have q438 : x9_1 < (t434.length : Int) := of_decide_eq_true b2_; obtain ⟨ad438, e438, hx438_0⟩ := Kd.at_int (Kd.R_reads' HO_8.out).2.2 x9_1 p438 q438; cases e438; replace p438 := eq_true p438; replace q438 := eq_true q438)); try go_wp2_with (first | (go_at_call 36; (with_reducible refine (forecourtref09_At.calls k1 _ _ l1 x9_1 t437 _ ?side1 ?side2 A17.out).mono ?_); (case side1 => repeat (first | exact (Kd.C_below HR1.out HB.out) | (with_reducible refine Kd.C_alloc ?_ _) | (with_reducible refine Kd.C_drewN ?_ _) | (with_reducible refine Kd.C_drew ?_))); (case side2 => exact HC1.out); rintro e w' ⟨rfl, ⟨nd, rfl⟩⟩; (try exact dd_); obtain ⟨Ao21, co21, eo21⟩ := Kd.R_slice HO_8.out; subst eo21; have p438 : 0 ≤ (x9_1 : Int) := of_decide_eq_true b2_; have q438 : x9_1 < (t434.length : Int) := of_decide_eq_true b2_; obtain ⟨ad438, e438, hx438_0⟩ := Kd.at_int (Kd.R_reads' HO_8.out).2.2 x9_1 p438 q438; cases e438; replace p438 := eq_true p438; replace q438 := eq_true q438)))
    go_ret2
    exact ⟨b4_, b1_⟩
  rw [if_neg c20] at H
  have c20b0 : decide ((rd t434 x9_1) < t437) = false := decide_eq_false c20
  clear c20
  have H' := Aside0.mk H
  clear H
  go_wp2_with (first | (go_at_call 36; (with_reducible refine (forecourtref09_At.calls k1 _ _ l1 x9_1 t437 _ ?side1 ?side2 A17.out).mono ?_); (case side1 => repeat (first | exact (Kd.C_below HR1.out HB.out) | (with_reducible refine Kd.C_alloc ?_ _) | (with_reducible refine Kd.C_drewN ?_ _) | (with_reducible refine Kd.C_drew ?_))); (case side2 => exact HC1.out); rintro e w' ⟨rfl, ⟨nd, rfl⟩⟩; (try exact dd_); obtain ⟨Ao22, co22, eo22⟩ := Kd.R_slice HO_8.out; subst eo22; have p438 : 0 ≤ (x9_1 : Int) := of_decide_eq_true b2_; have q438 : x9_1 < (t434.length : Int) := of_decide_eq_true b2_; obtain ⟨ad438, e438, hx438_0⟩ := Kd.at_int (Kd.R_reads' HO_8.out).2.2 x9_1 p438 q438; cases e438; replace p438 := eq_true p438; replace q438 := eq_true q438))
  repeat (go_quiet (first | (go_at_call 36; (with_reducible refine (forecourtref09_At.calls k1 _ _ l1 x9_1 t437 _ ?side1 ?side2 A17.out).mono ?_); (case side1 => repeat (first | exact (Kd.C_below HR1.out HB.out) | (with_reducible refine Kd.C_alloc ?_ _) | (with_reducible refine Kd.C_drewN ?_ _) | (with_reducible refine Kd.C_drew ?_))); (case side2 => exact HC1.out); rintro e w' ⟨rfl, ⟨nd, rfl⟩⟩; (try exact dd_); obtain ⟨Ao22, co22, eo22⟩ := Kd.R_slice HO_8.out; subst eo22; have p438 : 0 ≤ (x9_1 : Int) := of_decide_eq_true b2_; have q438 : x9_1 < (t434.length : Int) := of_decide_eq_true b2_; obtain ⟨ad438, e438, hx438_0⟩ := Kd.at_int (Kd.R_reads' HO_8.out).2.2 x9_1 p438 q438; cases e438; replace p438 := eq_true p438; replace q438 := eq_true q438)); try go_wp2_with (first | (go_at_call 36; (with_reducible refine (forecourtref09_At.calls k1 _ _ l1 x9_1 t437 _ ?side1 ?side2 A17.out).mono ?_); (case side1 => repeat (first | exact (Kd.C_below HR1.out HB.out) | (with_reducible refine Kd.C_alloc ?_ _) | (with_reducible refine Kd.C_drewN ?_ _) | (with_reducible refine Kd.C_drew ?_))); (case side2 => exact HC1.out); rintro e w' ⟨rfl, ⟨nd, rfl⟩⟩; (try exact dd_); obtain ⟨Ao22, co22, eo22⟩ := Kd.R_slice HO_8.out; subst eo22; have p438 : 0 ≤ (x9_1 : Int) := of_decide_eq_true b2_; have q438 : x9_1 < (t434.length : Int) := of_decide_eq_true b2_; obtain ⟨ad438, e438, hx438_0⟩ := Kd.at_int (Kd.R_reads' HO_8.out).2.2 x9_1 p438 q438; cases e438; replace p438 := eq_true p438; replace q438 := eq_true q438)))
  go_roundg k1
  case measure => have := HK1.out; omega
  case rel => exact ⟨(wrap64 (x9_1 + 1)), b5_, H', ⟨(by have := HK1.out; omega)⟩, ⟨(by (with_reducible repeat (first | apply Kd.R_alloc | apply Kd.R_drewN | apply Kd.R_drew)); exact HO_8.out)⟩, ⟨(by (with_reducible repeat (first | refine blk_drewN ?_ _ | refine blk_drew ?_ | refine blk_alloc ?_ _)); exact BK428.out)⟩, ⟨b1_⟩⟩

end Go.Proofs.Ytcgdbjojjpoegaa.P

namespace Go.Proofs.Ytcgdbjojjpoegaa.P
open Go.RowKit Go.Proofs.YtcgdbjojjpoegaaW.PrintWords Go.Proofs.YtcgdbjojjpoegaaW.PrintLast Go.Proofs.YtcgdbjojjpoegaaW.PrintMore
attribute [local go_sem] max2_int min2_int max_two min_two max_three min_three max_four min_four   -- for this text's walks alone
set_option linter.unusedVariables false
set_option linter.unusedSimpArgs false

/-! ### forecourtref09_Highest: function 25 -/
def forecourtref09_Highest.l0 : Nat → List Int → List (S54) → Int → Option ((List (S54)) × Int)
  | 0, _, _, _ => none
  | k + 1, x6, x7, x8 => if x8 ≤ 2000 then (if x8 = 0 then (if 0 ≤ x8 then (if x8 < (x6.length : Int) then (if x7.length < 8796093022208 then (forecourtref09_Highest.l0 k x6 (x7 ++ [(⟨x8, rd x6 x8⟩ : S54)]) (wrap64 (x8 + 1))) else (none)) else (none)) else (none)) else (if 0 ≤ x8 then (if x8 < (x6.length : Int) then (if 0 ≤ (wrap64 (x8 - 1)) then (if (wrap64 (x8 - 1)) < (x6.length : Int) then (if (rd x6 x8) = (rd x6 (wrap64 (x8 - 1))) then (forecourtref09_Highest.l0 k x6 x7 (wrap64 (x8 + 1))) else (if x7.length < 8796093022208 then (forecourtref09_Highest.l0 k x6 (x7 ++ [(⟨x8, rd x6 x8⟩ : S54)]) (wrap64 (x8 + 1))) else (none))) else (none)) else (none)) else (none)) else (none))) else (some (x7, 0))
def forecourtref09_Highest.f (k : Nat) (l0 : List (S54)) (a1_0 : Int) (a1_1 : Int) : Option ((List (S54)) × Int) := (forecourtref09_CheckSign.f k l0).bind fun t440 => (if t440 = 0 then ((forecourtref09_IsClocks.f a1_0 a1_1).bind fun t442 => (if t442 = true then ((forecourtref09_fair.f k l0 a1_0 a1_1).bind fun t443 => (forecourtref09_Highest.l0 k t443 ([] : List (S54)) 0)) else (some (([] : List (S54)), 2)))) else ((forecourtref09_CheckSign.f k l0).bind fun t441 => (some (([] : List (S54)), t441))))
set_option maxHeartbeats 8000000 in
set_option maxRecDepth 100000 in
theorem forecourtref09_Highest.calls (k : Nat) (A0 : Option Addr) (c0 : Nat) (l0 : List (S54)) (a1_0 : Int) (a1_1 : Int) (r1 : List (S54)) (r2 : Int) (w : World) (hr0 : Kd.C k54 w A0 l0.length l0) (hc0 : l0.length ≤ c0) (h : forecourtref09_Highest.f k l0 a1_0 a1_1 = some (r1, r2)) :
    Calls Try.prog 25 #[.slice A0 l0.length c0, .agg #[.int .i64 a1_0, .int .i64 a1_1]] w fun e w' => ∃ v0_ : Value, e = .returned (.tuple #[v0_, .int .i64 r2]) ∧ Kd.R k54 54 w' w.heap.size (fun _ => True) v0_ r1 ∧ Below w.heap.size w w' := by
  have hu24 := Try.underlying24
  have hu54 := Try.underlying54
  have HR0 := Aside0.mk hr0
  have HC0 := Aside0.mk hc0
  clear hr0 hc0
  have HB := Aside0.mk (Below.refl w.heap.size w)
  have H : ((forecourtref09_CheckSign.f k l0).bind fun t440 => (if t440 = 0 then ((forecourtref09_IsClocks.f a1_0 a1_1).bind fun t442 => (if t442 = true then ((forecourtref09_fair.f k l0 a1_0 a1_1).bind fun t443 => (forecourtref09_Highest.l0 k t443 ([] : List (S54)) 0)) else (some (([] : List (S54)), 2)))) else ((forecourtref09_CheckSign.f k l0).bind fun t441 => (some (([] : List (S54)), t441))))) = some (r1, r2) := h
  clear h
  replace H := Option.bind_eq_some_iff.mp H
  obtain ⟨t440, A30, H⟩ := H
  replace H : (if t440 = 0 then ((forecourtref09_IsClocks.f a1_0 a1_1).bind fun t442 => (if t442 = true then ((forecourtref09_fair.f k l0 a1_0 a1_1).bind fun t443 => (forecourtref09_Highest.l0 k t443 ([] : List (S54)) 0)) else (some (([] : List (S54)), 2)))) else ((forecourtref09_CheckSign.f k l0).bind fun t441 => (some (([] : List (S54)), t441)))) = some (r1, r2) := H
  have A3 := Aside0.mk A30
  clear A30
  by_cases c4 : t440 = 0
  rotate_left
  · rw [if_neg c4] at H
    have c4b0 : (t440 == 0) = false := beq_eq_false_iff_ne.mpr c4
    have c4b1 : (t440 != 0) = true := bne_iff_ne.mpr c4
    replace H := Option.bind_eq_some_iff.mp H
    obtain ⟨t441, A330, H⟩ := H
    have H_EQ := Aside0.mk (show t440 = t441 from Option.some.inj (A3.out.symm.trans A330))
    replace H : (some (([] : List (S54)), t441)) = some (r1, r2) := H
    have A33 := Aside0.mk A330
    clear A330
    simp only [Option.some.injEq, Prod.mk.injEq] at H
    obtain ⟨rfl, rfl⟩ := H
    go_enter Try.func25, Try.ntmps25
    go_wp2_with (first | ((with_reducible refine gate_dst (N := 3) rfl ?_); refine bx_ (cs := #[.int .i64 a1_0, .int .i64 a1_1]) (t := 24) (fun gb439 w34 BK439 GE439 HB => ?_)) | (go_at_call 21; (with_reducible refine (forecourtref09_CheckSign.calls k _ _ l0 t440 _ ?side1 ?side2 A3.out).mono ?_); (case side1 => repeat (first | exact (Kd.C_below HR0.out HB.out) | (with_reducible refine Kd.C_alloc ?_ _) | (with_reducible refine Kd.C_drewN ?_ _) | (with_reducible refine Kd.C_drew ?_))); (case side2 => exact HC0.out); rintro e w' ⟨rfl, ⟨nd, rfl⟩⟩; (try exact dd_)) | (go_at_call 21; (with_reducible refine (forecourtref09_CheckSign.calls k _ _ l0 t441 _ ?side1 ?side2 A33.out).mono ?_); (case side1 => repeat (first | exact (Kd.C_below HR0.out b1_) | (with_reducible refine Kd.C_alloc ?_ _) | (with_reducible refine Kd.C_drewN ?_ _) | (with_reducible refine Kd.C_drew ?_))); (case side2 => exact HC0.out); rintro e w' ⟨rfl, ⟨nd, rfl⟩⟩; (try exact dd_)))
    go_ret2
    obtain rfl := H_EQ.out
    exact ⟨_, b4_, b22_, b1_⟩
  rw [if_pos c4] at H
  have c4b0 : (t440 == 0) = true := beq_iff_eq.mpr c4
  have c4b1 : (t440 != 0) = false := bne_eq_false_iff_eq.mpr c4
  clear c4
  replace H := Option.bind_eq_some_iff.mp H
  obtain ⟨t442, A50, H⟩ := H
  replace H : (if t442 = true then ((forecourtref09_fair.f k l0 a1_0 a1_1).bind fun t443 => (forecourtref09_Highest.l0 k t443 ([] : List (S54)) 0)) else (some (([] : List (S54)), 2))) = some (r1, r2) := H
  have A5 := Aside0.mk A50
  clear A50
  by_cases c6 : t442 = true
  rotate_left
  · replace c6 := Bool.eq_false_iff.mpr c6
    subst c6
    have H1 : (some (([] : List (S54)), 2)) = some (r1, r2) := by rw [if_neg (show ¬ (false = true) by decide)] at H; exact H
    clear H
    have H := H1
    clear H1
    simp only [Option.some.injEq, Prod.mk.injEq] at H
    obtain ⟨rfl, rfl⟩ := H
    go_enter Try.func25, Try.ntmps25
    go_wp2_with (first | ((with_reducible refine gate_dst (N := 3) rfl ?_); refine bx_ (cs := #[.int .i64 a1_0, .int .i64 a1_1]) (t := 24) (fun gb439 w30 BK439 GE439 HB => ?_)) | (go_at_call 21; (with_reducible refine (forecourtref09_CheckSign.calls k _ _ l0 t440 _ ?side1 ?side2 A3.out).mono ?_); (case side1 => repeat (first | exact (Kd.C_below HR0.out HB.out) | (with_reducible refine Kd.C_alloc ?_ _) | (with_reducible refine Kd.C_drewN ?_ _) | (with_reducible refine Kd.C_drew ?_))); (case side2 => exact HC0.out); rintro e w' ⟨rfl, ⟨nd, rfl⟩⟩; (try exact dd_); obtain ⟨hcz31_0, hcz31_1, hfz31_0, hfz31_1⟩ := cz2_ BK439.out) | (go_at_call 39; (with_reducible refine (forecourtref09_IsClocks.calls a1_0 a1_1 false _ A5.out).mono ?_); rintro e w32 ⟨rfl, hb⟩; replace BK439 := bk_ BK439 hb; replace HB := hB_ HB hb; (try clear hb)))
    go_ret2
    exact ⟨_, b4_, b22_, b1_⟩
  subst c6
  have H1 : ((forecourtref09_fair.f k l0 a1_0 a1_1).bind fun t443 => (forecourtref09_Highest.l0 k t443 ([] : List (S54)) 0)) = some (r1, r2) := by rw [if_pos rfl] at H; exact H
  clear H
  have H := H1
  clear H1
  replace H := Option.bind_eq_some_iff.mp H
  obtain ⟨t443, A70, H⟩ := H
  replace H : (forecourtref09_Highest.l0 k t443 ([] : List (S54)) 0) = some (r1, r2) := H
  have A7 := Aside0.mk A70
  clear A70
  have H' := Aside0.mk H
  clear H
  go_enter Try.func25, Try.ntmps25
  go_wp2_with (first | ((with_reducible refine gate_dst (N := 3) rfl ?_); refine bx_ (cs := #[.int .i64 a1_0, .int .i64 a1_1]) (t := 24) (fun gb439 w8 BK439 GE439 HB => ?_)) | (go_at_call 21; (with_reducible refine (forecourtref09_CheckSign.calls k _ _ l0 t440 _ ?side1 ?side2 A3.out).mono ?_); (case side1 => repeat (first | exact (Kd.C_below HR0.out HB.out) | (with_reducible refine Kd.C_alloc ?_ _) | (with_reducible refine Kd.C_drewN ?_ _) | (with_reducible refine Kd.C_drew ?_))); (case side2 => exact HC0.out); rintro e w' ⟨rfl, ⟨nd, rfl⟩⟩; (try exact dd_); obtain ⟨hcz9_0, hcz9_1, hfz9_0, hfz9_1⟩ := cz2_ BK439.out) | (go_at_call 39; (with_reducible refine (forecourtref09_IsClocks.calls a1_0 a1_1 true _ A5.out).mono ?_); rintro e w10 ⟨rfl, hb⟩; replace BK439 := bk_ BK439 hb; replace HB := hB_ HB hb; (try clear hb); obtain ⟨hcz11_0, hcz11_1, hfz11_0, hfz11_1⟩ := cz2_ BK439.out) | (go_at_call 61; (with_reducible refine (forecourtref09_fair.calls k _ _ l0 a1_0 a1_1 t443 _ ?side1 ?side2 A7.out).mono ?_); (case side1 => repeat (first | exact (Kd.C_below HR0.out HB.out) | (with_reducible refine Kd.C_alloc ?_ _) | (with_reducible refine Kd.C_drewN ?_ _) | (with_reducible refine Kd.C_drew ?_))); (case side2 => exact HC0.out); rintro e w12 ⟨v444, rfl, ho0, hb⟩; have HO445 := Aside0.mk (Kd.R_lower ho0 (below_size b1_)); replace BK439 := bk_ BK439 hb; replace HB := hB_ HB hb; (try clear hb)))
  go_loopg [7, 8] k (fun kq v7 v8 w' => ∃ (x7_1 : List (S54)) (x8_1 : Int), v8 = .int .i64 x8_1 ∧ Aside0 (forecourtref09_Highest.l0 kq t443 x7_1 x8_1 = some (r1, r2)) ∧ Aside0 (kq ≤ k) ∧ Aside0 (Kd.R (Kd.int .i64) 2 w' w.heap.size (fun _ => True) v444 t443) ∧ Aside0 (Kd.R k54 54 w' w.heap.size (fun _ => True) v7 x7_1) ∧ Aside0 (w'.heap[gb439]? = some (.cells #[.int .i64 a1_0, .int .i64 a1_1] 24 (0, 0))) ∧ Aside0 (Below w.heap.size w w'))
  case atStart => exact ⟨(([] : List (S54))), (0), b5_, H', ⟨Nat.le_refl _⟩, ⟨(by (with_reducible repeat (first | apply Kd.R_alloc | apply Kd.R_drewN | apply Kd.R_drew)); exact HO445.out)⟩, ⟨b22_⟩, ⟨b38_⟩, ⟨b1_⟩⟩
  clear H'
  try clear c2
  try clear p2
  try clear c4
  try clear c4b0
  try clear c4b1
  try clear c6
  try clear hcz11_0
  try clear hcz11_1
  try clear hcz9_0
  try clear hcz9_1
  try clear hfz11_0
  try clear hfz11_1
  try clear hfz9_0
  try clear hfz9_1
  obtain ⟨x7_1, x8_1, rfl, HA, HK1, HO_6, HO_7, BK439, HB⟩ := hrel
  cases gk with
  | zero => exact absurd HA.out (by simp [forecourtref09_Highest.l0])
  | succ k1 => ?_
  have H := HA.out
  clear HA
  simp only [forecourtref09_Highest.l0] at H
  by_cases c13 : x8_1 ≤ 2000
  rotate_left
  · rw [if_neg c13] at H
    have c13b0 : decide (x8_1 ≤ 2000) = false := decide_eq_false c13
    clear c13
    simp only [Option.some.injEq, Prod.mk.injEq] at H
    obtain ⟨rfl, rfl⟩ := H
    go_wp2
    go_ret2
    exact ⟨_, b4_, b18_, b1_⟩
  rw [if_pos c13] at H
  have c13b0 : decide (x8_1 ≤ 2000) = true := decide_eq_true c13
  clear c13
  by_cases c14 : x8_1 = 0
  · rw [if_pos c14] at H
    have c14b0 : (x8_1 == 0) = true := beq_iff_eq.mpr c14
    have c14b1 : (x8_1 != 0) = false := bne_eq_false_iff_eq.mpr c14
    clear c14
    by_cases c15 : 0 ≤ x8_1
    rotate_left
    · rw [if_neg c15] at H
      exact absurd H (by simp)
    rw [if_pos c15] at H
    have c15b0 : decide (0 ≤ x8_1) = true := decide_eq_true c15
    clear c15
    by_cases c16 : x8_1 < (t443.length : Int)
    rotate_left
    · rw [if_neg c16] at H
      exact absurd H (by simp)
    rw [if_pos c16] at H
    have c16b0 : decide (x8_1 < (t443.length : Int)) = true := decide_eq_true c16
    clear c16
    by_cases c17 : x7_1.length < 8796093022208
    rotate_left
    · rw [if_neg c17] at H
      exact absurd H (by simp)
    rw [if_pos c17] at H
    have LMc17 := Aside0.mk c17
    clear c17
    obtain ⟨y447, hy447⟩ : ∃ y_ : List (S54), y_ = (x7_1 ++ [(⟨x8_1, rd t443 x8_1⟩ : S54)]) := ⟨_, rfl⟩
    replace H : (forecourtref09_Highest.l0 k1 t443 y447 (wrap64 (x8_1 + 1))) = some (r1, r2) := by first | (rw [hy447]; with_reducible exact H) | (have H2_ := (Option.bind_some _ _).symm.trans H; rw [hy447]; with_reducible exact H2_) | (have H2_ := (Option.bind_some _ _).symm.trans H; with_reducible exact H2_) | with_reducible exact H | (rw [hy447]; exact H) | exact H
    have Ny447 := Aside0.mk hy447
    clear hy447
    have H' := Aside0.mk H
    clear H
    obtain ⟨Ao18, co18, eo18⟩ := Kd.R_slice HO_6.out
    subst eo18
    have p446 : 0 ≤ (x8_1 : Int) := of_decide_eq_true b2_
    have q446 : x8_1 < (t443.length : Int) := of_decide_eq_true b2_
    obtain ⟨ad446, e446, hx446_0⟩ := Kd.at_int (Kd.R_reads' HO_6.out).2.2 x8_1 p446 q446
    cases e446
    replace p446 := eq_true p446
    replace q446 := eq_true q446
    go_wp2_with (first | ((with_reducible refine gate_builtin (b := .append) (xs := #[.tmp 38, .tmp 45]) rfl ?_); at_builtin; refine Kd.R_append k54 (w0 := w) w.heap.size rfl (.tmp 38) (.tmp 45) 22 54 (.agg #[(.int .i64 0), (.int .i64 0)]) 16 rfl Try.underlying22 info54 rfl (by decide) (by omega) u7 x7_1 (⟨x8_1, rd t443 x8_1⟩ : S54) [.int .i64 x8_1, .int .i64 (rd t443 x8_1)] (fun _ => True) (fun _ => False) rfl rfl ?aP (fun _ hk => hk.elim) ?aF ?aO ?aB ?aS ?aL ?_; (case aP => exact k54_mkM _ _ _ (⟨x8_1, rd t443 x8_1⟩ : S54)); (case aB => exact b1_); (case aF => exact (fun _ _ => trivial)); (case aO => exact b10_); (case aS => exact (below_size b1_)); (case aL => have := LMc17.out; omega); intro v448 w19 ho hb hg hat; rw [← Ny447.out] at ho; replace HO_6 := Aside0.mk (Kd.R_over' b16_ (Kd.R_typed b18_) (by decide) hg); replace BK439 := Aside0.mk (blk_grown (g := gb439) (o := .cells #[.int .i64 a1_0, .int .i64 a1_1] 24 (0, 0)) b19_ hg (Kd.R_ne HO_7.out BK439.out (by decide))); replace HB := Aside0.mk (hb); have HO449 := Aside0.mk (ho); clear HO_7; clear ho hb hg hat))
    repeat (go_quiet (first | ((with_reducible refine gate_builtin (b := .append) (xs := #[.tmp 38, .tmp 45]) rfl ?_); at_builtin; refine Kd.R_append k54 (w0 := w) w.heap.size rfl (.tmp 38) (.tmp 45) 22 54 (.agg #[(.int .i64 0), (.int .i64 0)]) 16 rfl Try.underlying22 info54 rfl (by decide) (by omega) u7 x7_1 (⟨x8_1, rd t443 x8_1⟩ : S54) [.int .i64 x8_1, .int .i64 (rd t443 x8_1)] (fun _ => True) (fun _ => False) rfl rfl ?aP (fun _ hk => hk.elim) ?aF ?aO ?aB ?aS ?aL ?_; (case aP => exact k54_mkM _ _ _ (⟨x8_1, rd t443 x8_1⟩ : S54)); (case aB => exact b1_); (case aF => exact (fun _ _ => trivial)); (case aO => exact b10_); (case aS => exact (below_size b1_)); (case aL => have := LMc17.out; omega); intro v448 w19 ho hb hg hat; rw [← Ny447.out] at ho; replace HO_6 := Aside0.mk (Kd.R_over' b16_ (Kd.R_typed b18_) (by decide) hg); replace BK439 := Aside0.mk (blk_grown (g := gb439) (o := .cells #[.int .i64 a1_0, .int .i64 a1_1] 24 (0, 0)) b19_ hg (Kd.R_ne HO_7.out BK439.out (by decide))); replace HB := Aside0.mk (hb); have HO449 := Aside0.mk (ho); clear HO_7; clear ho hb hg hat)); try go_wp2_with (first | ((with_reducible refine gate_builtin (b := .append) (xs := #[.tmp 38, .tmp 45]) rfl ?_); at_builtin; refine Kd.R_append k54 (w0 := w) w.heap.size rfl (.tmp 38) (.tmp 45) 22 54 (.agg #[(.int .i64 0), (.int .i64 0)]) 16 rfl Try.underlying22 info54 rfl (by decide) (by omega) u7 x7_1 (⟨x8_1, rd t443 x8_1⟩ : S54) [.int .i64 x8_1, .int .i64 (rd t443 x8_1)] (fun _ => True) (fun _ => False) rfl rfl ?aP (fun _ hk => hk.elim) ?aF ?aO ?aB ?aS ?aL ?_; (case aP => exact k54_mkM _ _ _ (⟨x8_1, rd t443 x8_1⟩ : S54)); (case aB => exact b1_); (case aF => exact (fun _ _ => trivial)); (case aO => exact b10_); (case aS => exact (below_size b1_)); (case aL => have := LMc17.out; omega); intro v448 w19 ho hb hg hat; rw [← Ny447.out] at ho; replace HO_6 := Aside0.mk (Kd.R_over' b16_ (Kd.R_typed b18_) (by decide) hg); replace BK439 := Aside0.mk (blk_grown (g := gb439) (o := .cells #[.int .i64 a1_0, .int .i64 a1_1] 24 (0, 0)) b19_ hg (Kd.R_ne HO_7.out BK439.out (by decide))); replace HB := Aside0.mk (hb); have HO449 := Aside0.mk (ho); clear HO_7; clear ho hb hg hat)))
    go_roundg k1
    case measure => have := HK1.out; omega
    case rel => exact ⟨(y447), (wrap64 (x8_1 + 1)), b5_, H', ⟨(by have := HK1.out; omega)⟩, ⟨b16_⟩, ⟨(by (with_reducible repeat (first | apply Kd.R_alloc | apply Kd.R_drewN | apply Kd.R_drew)); exact HO449.out)⟩, ⟨b38_⟩, ⟨b1_⟩⟩
  rw [if_neg c14] at H
  have c14b0 : (x8_1 == 0) = false := beq_eq_false_iff_ne.mpr c14
  have c14b1 : (x8_1 != 0) = true := bne_iff_ne.mpr c14
  by_cases c20 : 0 ≤ x8_1
  rotate_left
  · rw [if_neg c20] at H
    exact absurd H (by simp)
  rw [if_pos c20] at H
  have c20b0 : decide (0 ≤ x8_1) = true := decide_eq_true c20
  clear c20
  by_cases c21 : x8_1 < (t443.length : Int)
  rotate_left
  · rw [if_neg c21] at H
    exact absurd H (by simp)
  rw [if_pos c21] at H
  have c21b0 : decide (x8_1 < (t443.length : Int)) = true := decide_eq_true c21
  clear c21
  obtain ⟨ji22, hji22⟩ : ∃ j_ : Int, (wrap64 (x8_1 - 1)) = j_ := ⟨_, rfl⟩
  replace H : (if 0 ≤ (ji22) then (if (ji22) < (t443.length : Int) then (if (rd t443 x8_1) = (rd t443 (ji22)) then (forecourtref09_Highest.l0 k1 t443 x7_1 (wrap64 (x8_1 + 1))) else (if x7_1.length < 8796093022208 then (forecourtref09_Highest.l0 k1 t443 (x7_1 ++ [(⟨x8_1, rd t443 x8_1⟩ : S54)]) (wrap64 (x8_1 + 1))) else (none))) else (none)) else (none)) = some (r1, r2) := by first | (rw [hji22] at H; exact H) | (simp only [hji22] at H ⊢; exact H)
  have hji22w : (IntKind.i64.wrap (x8_1 - 1)) = ji22 := (i64_w _).trans hji22
  by_cases c23 : 0 ≤ (ji22)
  rotate_left
  · rw [if_neg c23] at H
    exact absurd H (by simp)
  rw [if_pos c23] at H
  have c23b0 : decide (0 ≤ (ji22)) = true := decide_eq_true c23
  clear c23
  by_cases c24 : (ji22) < (t443.length : Int)
  rotate_left
  · rw [if_neg c24] at H
    exact absurd H (by simp)
  rw [if_pos c24] at H
  have c24b0 : decide ((ji22) < (t443.length : Int)) = true := decide_eq_true c24
  clear c24
  by_cases c25 : (rd t443 x8_1) = (rd t443 (ji22))
  · rw [if_pos c25] at H
    have c25b0 : ((rd t443 x8_1) == (rd t443 (ji22))) = true := beq_iff_eq.mpr c25
    have c25b1 : ((rd t443 x8_1) != (rd t443 (ji22))) = false := bne_eq_false_iff_eq.mpr c25
    clear c25
    have H' := Aside0.mk H
    clear H
    obtain ⟨Ao26, co26, eo26⟩ := Kd.R_slice HO_6.out
    subst eo26
    have p450 : 0 ≤ (x8_1 : Int) := of_decide_eq_true b2_
    have q450 : x8_1 < (t443.length : Int) := of_decide_eq_true b2_
    obtain ⟨ad450, e450, hx450_0⟩ := Kd.at_int (Kd.R_reads' HO_6.out).2.2 x8_1 p450 q450
    cases e450
    replace p450 := eq_true p450
    replace q450 := eq_true q450
    have p451 : 0 ≤ ((ji22) : Int) := of_decide_eq_true b2_
    have q451 : (ji22) < (t443.length : Int) := of_decide_eq_true b2_
    obtain ⟨ad451, e451, hx451_0⟩ := Kd.at_int (Kd.R_reads' HO_6.out).2.2 (ji22) p451 q451
    obtain rfl : ad450 = ad451 := (by injection e451)
    replace p451 := eq_true p451
    replace q451 := eq_true q451
    go_wp2
    repeat (go_quiet (fail); try go_wp2)
    go_roundg k1
    case measure => have := HK1.out; omega
    case rel => exact ⟨(x7_1), (wrap64 (x8_1 + 1)), b5_, H', ⟨(by have := HK1.out; omega)⟩, ⟨b16_⟩, ⟨b18_⟩, ⟨b38_⟩, ⟨b1_⟩⟩
  rw [if_neg c25] at H
  have c25b0 : ((rd t443 x8_1) == (rd t443 (ji22))) = false := beq_eq_false_iff_ne.mpr c25
  have c25b1 : ((rd t443 x8_1) != (rd t443 (ji22))) = true := bne_iff_ne.mpr c25
  by_cases c27 : x7_1.length < 8796093022208
  rotate_left
  · rw [if_neg c27] at H
    exact absurd H (by simp)
  rw [if_pos c27] at H
  have LMc27 := Aside0.mk c27
  clear c27
  obtain ⟨y453, hy453⟩ : ∃ y_ : List (S54), y_ = (x7_1 ++ [(⟨x8_1, rd t443 x8_1⟩ : S54)]) := ⟨_, rfl⟩
  replace H : (forecourtref09_Highest.l0 k1 t443 y453 (wrap64 (x8_1 + 1))) = some (r1, r2) := by first | (rw [hy453]; with_reducible exact H) | (have H2_ := (Option.bind_some _ _).symm.trans H; rw [hy453]; with_reducible exact H2_) | (have H2_ := (Option.bind_some _ _).symm.trans H; with_reducible exact H2_) | with_reducible exact H | (rw [hy453]; exact H) | exact H
  have Ny453 := Aside0.mk hy453
  clear hy453
  have H' := Aside0.mk H
  clear H
  obtain ⟨Ao28, co28, eo28⟩ := Kd.R_slice HO_6.out
  subst eo28
  have p450 : 0 ≤ (x8_1 : Int) := of_decide_eq_true b2_
  have q450 : x8_1 < (t443.length : Int) := of_decide_eq_true b2_
  obtain ⟨ad450, e450, hx450_0⟩ := Kd.at_int (Kd.R_reads' HO_6.out).2.2 x8_1 p450 q450
  cases e450
  replace p450 := eq_true p450
  replace q450 := eq_true q450
  have p451 : 0 ≤ ((ji22) : Int) := of_decide_eq_true b2_
  have q451 : (ji22) < (t443.length : Int) := of_decide_eq_true b2_
  obtain ⟨ad451, e451, hx451_0⟩ := Kd.at_int (Kd.R_reads' HO_6.out).2.2 (ji22) p451 q451
  obtain rfl : ad450 = ad451 := (by injection e451)
  replace p451 := eq_true p451
  replace q451 := eq_true q451
  have p452 : 0 ≤ (x8_1 : Int) := of_decide_eq_true b2_
  have q452 : x8_1 < (t443.length : Int) := of_decide_eq_true b2_
  obtain ⟨ad452, e452, hx452_0⟩ := Kd.at_int (Kd.R_reads' HO_6.out).2.2 x8_1 p452 q452
  obtain rfl : ad450 = ad452 := (by injection e452)
  replace p452 := eq_true p452
  replace q452 := eq_true q452
  go_wp2_with (first | ((with_reducible refine gate_builtin (b := .append) (xs := #[.tmp 38, .tmp 45]) rfl ?_); at_builtin; refine Kd.R_append k54 (w0 := w) w.heap.size rfl (.tmp 38) (.tmp 45) 22 54 (.agg #[(.int .i64 0), (.int .i64 0)]) 16 rfl Try.underlying22 info54 rfl (by decide) (by omega) u7 x7_1 (⟨x8_1, rd t443 x8_1⟩ : S54) [.int .i64 x8_1, .int .i64 (rd t443 x8_1)] (fun _ => True) (fun _ => False) rfl rfl ?aP (fun _ hk => hk.elim) ?aF ?aO ?aB ?aS ?aL ?_; (case aP => exact k54_mkM _ _ _ (⟨x8_1, rd t443 x8_1⟩ : S54)); (case aB => exact b1_); (case aF => exact (fun _ _ => trivial)); (case aO => exact b10_); (case aS => exact (below_size b1_)); (case aL => have := LMc27.out; omega); intro v454 w29 ho hb hg hat; rw [← Ny453.out] at ho; replace HO_6 := Aside0.mk (Kd.R_over' b16_ (Kd.R_typed b18_) (by decide) hg); replace BK439 := Aside0.mk (blk_grown (g := gb439) (o := .cells #[.int .i64 a1_0, .int .i64 a1_1] 24 (0, 0)) b19_ hg (Kd.R_ne HO_7.out BK439.out (by decide))); replace HB := Aside0.mk (hb); have HO455 := Aside0.mk (ho); clear HO_7; clear ho hb hg hat))
  repeat (go_quiet (first | ((with_reducible refine gate_builtin (b := .append) (xs := #[.tmp 38, .tmp 45]) rfl ?_); at_builtin; refine Kd.R_append k54 (w0 := w) w.heap.size rfl (.tmp 38) (.tmp 45) 22 54 (.agg #[(.int .i64 0), (.int .i64 0)]) 16 rfl Try.underlying22 info54 rfl (by decide) (by omega) u7 x7_1 (⟨x8_1, rd t443 x8_1⟩ : S54) [.int .i64 x8_1, .int .i64 (rd t443 x8_1)] (fun _ => True) (fun _ => False) rfl rfl ?aP (fun _ hk => hk.elim) ?aF ?aO ?aB ?aS ?aL ?_; (case aP => exact k54_mkM _ _ _ (⟨x8_1, rd t443 x8_1⟩ : S54)); (case aB => exact b1_); (case aF => exact (fun _ _ => trivial)); (case aO => exact b10_); (case aS => exact (below_size b1_)); (case aL => have := LMc27.out; omega); intro v454 w29 ho hb hg hat; rw [← Ny453.out] at ho; replace HO_6 := Aside0.mk (Kd.R_over' b16_ (Kd.R_typed b18_) (by decide) hg); replace BK439 := Aside0.mk (blk_grown (g := gb439) (o := .cells #[.int .i64 a1_0, .int .i64 a1_1] 24 (0, 0)) b19_ hg (Kd.R_ne HO_7.out BK439.out (by decide))); replace HB := Aside0.mk (hb); have HO455 := Aside0.mk (ho); clear HO_7; clear ho hb hg hat)); try go_wp2_with (first | ((with_reducible refine gate_builtin (b := .append) (xs := #[.tmp 38, .tmp 45]) rfl ?_); at_builtin; refine Kd.R_append k54 (w0 := w) w.heap.size rfl (.tmp 38) (.tmp 45) 22 54 (.agg #[(.int .i64 0), (.int .i64 0)]) 16 rfl Try.underlying22 info54 rfl (by decide) (by omega) u7 x7_1 (⟨x8_1, rd t443 x8_1⟩ : S54) [.int .i64 x8_1, .int .i64 (rd t443 x8_1)] (fun _ => True) (fun _ => False) rfl rfl ?aP (fun _ hk => hk.elim) ?aF ?aO ?aB ?aS ?aL ?_; (case aP => exact k54_mkM _ _ _ (⟨x8_1, rd t443 x8_1⟩ : S54)); (case aB => exact b1_); (case aF => exact (fun _ _ => trivial)); (case aO => exact b10_); (case aS => exact (below_size b1_)); (case aL => have := LMc27.out; omega); intro v454 w29 ho hb hg hat; rw [← Ny453.out] at ho; replace HO_6 := Aside0.mk (Kd.R_over' b16_ (Kd.R_typed b18_) (by decide) hg); replace BK439 := Aside0.mk (blk_grown (g := gb439) (o := .cells #[.int .i64 a1_0, .int .i64 a1_1] 24 (0, 0)) b19_ hg (Kd.R_ne HO_7.out BK439.out (by decide))); replace HB := Aside0.mk (hb); have HO455 := Aside0.mk (ho); clear HO_7; clear ho hb hg hat)))
  go_roundg k1
  case measure => have := HK1.out; omega
  case rel => exact ⟨(y453), (wrap64 (x8_1 + 1)), b5_, H', ⟨(by have := HK1.out; omega)⟩, ⟨b16_⟩, ⟨(by (with_reducible repeat (first | apply Kd.R_alloc | apply Kd.R_drewN | apply Kd.R_drew)); exact HO455.out)⟩, ⟨b38_⟩, ⟨b1_⟩⟩

end Go.Proofs.Ytcgdbjojjpoegaa.P

namespace Go.Proofs.Ytcgdbjojjpoegaa.P
open Go.RowKit Go.Proofs.YtcgdbjojjpoegaaW.PrintWords Go.Proofs.YtcgdbjojjpoegaaW.PrintLast Go.Proofs.YtcgdbjojjpoegaaW.PrintMore
set_option linter.unusedVariables false
set_option linter.unusedSimpArgs false

/-- the prices of all minutes that clocks reach -/
def atAll (l : List S54) (n : Nat) : List Int := (List.range n).map fun (j : Nat) => atV l ((j : Int) - 100)
theorem atAll_len (l : List S54) (n : Nat) : (atAll l n).length = n := by simp [atAll]
theorem rd_atAll (l : List S54) (n : Nat) (t : Int) (h : -100 ≤ t) (h' : t + 100 < n) : rd (atAll l n) (t + 100) = atV l t := by
  obtain ⟨j, hj⟩ : ∃ j : Nat, t + 100 = j := ⟨(t + 100).toNat, by omega⟩
  rw [hj, rd_nat _ j (by rw [atAll_len]; omega)]
  unfold atAll
  rw [List.getElem_map, List.getElem_range]
  congr 1
  omega
/-- the fair prices of minutes -/
def fairs (l : List S54) (lo hi : Int) (n : Nat) : List Int := (List.range n).map fun (j : Nat) => fairV l lo hi (j : Int)
theorem fairs_len (l : List S54) (lo hi : Int) (n : Nat) : (fairs l lo hi n).length = n := by simp [fairs]
theorem rd_fairs (l : List S54) (lo hi : Int) (n : Nat) (t : Int) (h : 0 ≤ t) (h' : t < n) : rd (fairs l lo hi n) t = fairV l lo hi t := by
  obtain ⟨j, rfl⟩ : ∃ j : Nat, t = j := ⟨t.toNat, by omega⟩
  rw [rd_nat _ j (by rw [fairs_len]; omega)]
  unfold fairs
  rw [List.getElem_map, List.getElem_range]
theorem rf_l2 {l : List S54} (hs : Sign l) {lo hi m : Int} (hc : Clk lo hi) (hm0 : 0 ≤ m) (hm : m ≤ 2000) (out : List Int) (ho : out.length < 17592186044416) :
    ∀ (n k : Nat) (acc t : Int), m + hi + 1 = t + n → m + lo ≤ t → ∃ v, forecourtref09_fair.l2 (k + n + 1) (atAll l 2201) out m acc t lo hi = forecourtref09_fair.l1 k (atAll l 2201) (out ++ [v]) (m + 1) lo hi ∧ v ≤ acc ∧ (v = acc ∨ ∃ t', t ≤ t' ∧ t' ≤ m + hi ∧ v = atV l t') ∧ ∀ t', t ≤ t' → t' ≤ m + hi → v ≤ atV l t'
  | 0, k, acc, t, ht, hl => by
    have h1 := hc.a
    have h2 := hc.b
    have h3 := hc.c
    refine ⟨acc, ?_, Int.le_refl _, .inl rfl, fun t' a b => by omega⟩
    rw [forecourtref09_fair.l2, wrap_ok (m + hi) (by omega) (by omega), if_neg (by omega), if_pos ho, wrap_ok (m + 1) (by omega) (by omega)]
  | n + 1, k, acc, t, ht, hl => by
    have h1 := hc.a
    have h2 := hc.b
    have h3 := hc.c
    obtain ⟨v, h4, h5, h6, h7⟩ := rf_l2 hs hc hm0 hm out ho n k (mn acc (atV l t)) (t + 1) (by omega) (by omega)
    have hmn : (mn acc (atV l t) = acc ∨ mn acc (atV l t) = atV l t) ∧ mn acc (atV l t) ≤ acc ∧ mn acc (atV l t) ≤ atV l t := by
      unfold mn
      split <;> omega
    refine ⟨v, ?_, by omega, ?_, fun t' a b => ?_⟩
    · rw [forecourtref09_fair.l2, wrap_ok (m + hi) (by omega) (by omega), if_pos (by omega), wrap_ok (t + 100) (by omega) (by omega), if_pos (by omega), if_pos (by rw [atAll_len]; omega), rd_atAll l 2201 t (by omega) (by omega), wrap_ok (t + 1) (by omega) (by omega)]
      exact h4
    · rcases h6 with h6 | ⟨t', a, b, e⟩
      · rcases hmn.1 with h8 | h8
        · exact .inl (by omega)
        · exact .inr ⟨t, Int.le_refl _, by omega, by omega⟩
      · exact .inr ⟨t', by omega, b, e⟩
    · rcases Int.lt_or_le t t' with h8 | h8
      · exact h7 t' (by omega) b
      · have : t' = t := by omega
        subst this
        omega
theorem fairs_snoc (l : List S54) (lo hi : Int) (n : Nat) : fairs l lo hi n ++ [fairV l lo hi (n : Int)] = fairs l lo hi (n + 1) := by
  unfold fairs
  rw [List.range_succ, List.map_append]
  rfl
set_option maxRecDepth 20000 in
theorem rf_l1 {l : List S54} (hs : Sign l) {lo hi : Int} (hc : Clk lo hi) : ∀ (n k i : Nat), i + n = 2001 → n * 300 < k → forecourtref09_fair.l1 k (atAll l 2201) (fairs l lo hi i) (i : Int) lo hi = some (fairs l lo hi 2001)
  | n, 0, i => fun hi' hk => by omega
  | 0, k + 1, i => fun hi' hk => by
    rw [forecourtref09_fair.l1, if_neg (by omega), show i = 2001 by omega]
  | n + 1, k + 1, i => fun hi' hk => by
    have h1 := hc.a
    have h2 := hc.b
    have h3 := hc.c
    rw [forecourtref09_fair.l1, if_pos (by omega), wrap_ok ((i : Int) + lo) (by omega) (by omega), wrap_ok ((i : Int) + lo + 100) (by omega) (by omega), if_pos (by omega), if_pos (by rw [atAll_len]; omega), rd_atAll l 2201 _ (by omega) (by omega)]
    obtain ⟨k', hk'⟩ : ∃ k', k = k' + (hi - lo + 1).toNat + 1 := ⟨k - ((hi - lo + 1).toNat + 1), by omega⟩
    obtain ⟨v, h4, h5, h6, h7⟩ := rf_l2 hs hc (m := (i : Int)) (by omega) (by omega) (fairs l lo hi i) (by rw [fairs_len]; omega) (hi - lo + 1).toNat k' (atV l ((i : Int) + lo)) ((i : Int) + lo) (by omega) (Int.le_refl _)
    have hv : v = fairV l lo hi (i : Int) := by
      refine FairV.uniq (l := l) (lo := lo) (hi := hi) (m := (i : Int)) ⟨?_, h7⟩ (fairV_some hs hc (by omega) (by omega)).2
      rcases h6 with h6 | h6
      · exact ⟨_, Int.le_refl _, by omega, h6⟩
      · exact h6
    rw [hk', h4, hv, fairs_snoc]
    have e1 : i + 1 + n = 2001 := by omega
    have e2 : n * 300 < k' := by omega
    exact rf_l1 hs hc n k' (i + 1) e1 e2
theorem atAll_snoc (l : List S54) (n : Nat) : atAll l n ++ [atV l ((n : Int) - 100)] = atAll l (n + 1) := by
  unfold atAll
  rw [List.range_succ, List.map_append]
  rfl
theorem rf_l0 {l : List S54} (hs : Sign l) {lo hi : Int} (hc : Clk lo hi) : ∀ (n k i : Nat), i + n = 2201 → n + 601000 < k → forecourtref09_fair.l0 k l (atAll l i) ((i : Int) - 100) lo hi = some (fairs l lo hi 2001)
  | n, 0, i => fun hi' hk => by omega
  | 0, k + 1, i => fun hi' hk => by
    rw [forecourtref09_fair.l0, if_neg (by omega), show i = 2201 by omega]
    exact rf_l1 hs hc 2001 k 0 (by omega) (by omega)
  | n + 1, k + 1, i => fun hi' hk => by
    rw [forecourtref09_fair.l0, if_pos (by omega), ref_at l _ hs.pos hs.le k (by omega), Option.bind_some, if_pos (by rw [atAll_len]; omega), wrap_ok _ (by omega) (by omega), atAll_snoc, show (i : Int) - 100 + 1 = ((i + 1 : Nat) : Int) - 100 by omega]
    exact rf_l0 hs hc n k (i + 1) (by omega) (by omega)
theorem rf_eq {l : List S54} (hs : Sign l) {lo hi : Int} (hc : Clk lo hi) (k : Nat) (hk : 700000 ≤ k) : forecourtref09_fair.f k l lo hi = some (fairs l lo hi 2001) := by
  unfold forecourtref09_fair.f
  exact rf_l0 hs hc 2201 k 0 (by omega) (by omega)
/-- a sign cheats at a minute -/
def Cheats (l pump : List S54) (lo hi m : Int) : Prop := fairV l lo hi m < atV pump m
instance (l pump : List S54) (lo hi m : Int) : Decidable (Cheats l pump lo hi m) := inferInstanceAs (Decidable (_ < _))
/-- what Cheat answers for valid signs and clocks -/
def CheatSpec (l pump : List S54) (lo hi : Int) (v : Int × Int) : Prop :=
  (v = (0, 5) ∧ ∀ m, 0 ≤ m → m ≤ 2000 → ¬ Cheats l pump lo hi m) ∨ (∃ m, v = (m, 0) ∧ 0 ≤ m ∧ m ≤ 2000 ∧ Cheats l pump lo hi m ∧ ∀ m', 0 ≤ m' → m' < m → ¬ Cheats l pump lo hi m')
theorem CheatSpec.uniq {l pump : List S54} {lo hi : Int} {u v : Int × Int} (h : CheatSpec l pump lo hi u) (h' : CheatSpec l pump lo hi v) : u = v := by
  rcases h with ⟨rfl, h1⟩ | ⟨m, rfl, h1, h2, h3, h4⟩ <;> rcases h' with ⟨rfl, g1⟩ | ⟨n, rfl, g1, g2, g3, g4⟩
  · rfl
  · exact absurd g3 (h1 n g1 g2)
  · exact absurd h3 (g1 m h1 h2)
  · rcases Int.lt_trichotomy m n with h5 | h5 | h5
    · exact absurd h3 (g4 m h1 h5)
    · rw [h5]
    · exact absurd g3 (h4 n g1 h5)
theorem refCheat_l0 {l pump : List S54} (hp : Sign pump) {lo hi : Int} : ∀ (n k i : Nat), i + n = 2001 → n + 100 < k → (∀ m, 0 ≤ m → m < (i : Int) → ¬ Cheats l pump lo hi m) → ∃ v, forecourtref09_Cheat.l0 k pump (fairs l lo hi 2001) (i : Int) = some v ∧ CheatSpec l pump lo hi v
  | n, 0, i => fun hi' hk _ => by omega
  | 0, k + 1, i => fun hi' hk hb => by
    rw [forecourtref09_Cheat.l0, if_neg (by omega)]
    exact ⟨_, rfl, .inl ⟨rfl, fun m h1 h2 => hb m h1 (by omega)⟩⟩
  | n + 1, k + 1, i => fun hi' hk hb => by
    rw [forecourtref09_Cheat.l0, if_pos (by omega), ref_at pump _ hp.pos hp.le k (by omega), Option.bind_some, if_pos (by omega), if_pos (by rw [fairs_len]; omega), rd_fairs l lo hi 2001 _ (by omega) (by omega)]
    by_cases hc : atV pump (i : Int) > fairV l lo hi (i : Int)
    · rw [if_pos hc]
      exact ⟨_, rfl, .inr ⟨i, rfl, by omega, by omega, hc, hb⟩⟩
    · rw [if_neg hc, wrap_next i (by omega)]
      refine refCheat_l0 hp n k (i + 1) (by omega) (by omega) fun m h1 h2 => ?_
      rcases Int.lt_or_le m (i : Int) with h3 | h3
      · exact hb m h1 h3
      · have : m = (i : Int) := by omega
        rw [this]
        exact hc
theorem cheatO_eq {l pump : List S54} (hs : Sign l) (hp : Sign pump) {lo hi m : Int} (hc : Clk lo hi) (h1 : 0 ≤ m) (h2 : m ≤ 2000) : cheatO l pump lo hi m = some (decide (Cheats l pump lo hi m)) := by
  obtain ⟨j, hj, hj2⟩ := at_ex pump m hp.pos hp.le
  unfold cheatO
  rw [hj2 100 (by omega), Option.bind_some, if_pos ⟨by omega, by have := hj.lt; omega⟩, (fairV_some hs hc (by omega) (by omega)).1, Option.bind_some, ← hj.val hp.le]
  rfl
/-- the minutes that Cheat asks -/
theorem minutes_mem {l pump : List S54} (hs : Sign l) {lo hi : Int} (hc : Clk lo hi) (x : Int) : x ∈ minutesL lo hi l pump ↔ x ∈ changesC lo hi l ∨ x ∈ pump.map (·.f0) := by
  unfold minutesL
  rw [List.mem_mergeSort, List.mem_append, changes_mem]
theorem sign_mins {l : List S54} (hs : Sign l) {x : Int} (h : x ∈ l.map (·.f0)) : 0 ≤ x ∧ x ≤ 2000 := by
  obtain ⟨p, hp, rfl⟩ := List.mem_map.1 h
  obtain ⟨i, hi, rfl⟩ := List.mem_iff_getElem.1 hp
  have := hs.f0 hi
  rwa [rdP l i hi] at this
theorem minutes_rng {l pump : List S54} (hs : Sign l) (hp : Sign pump) {lo hi : Int} (hc : Clk lo hi) {x : Int} (h : x ∈ minutesL lo hi l pump) : 0 ≤ x ∧ x ≤ 2000 := by
  rcases (minutes_mem hs hc x).1 h with h | h
  · rcases (chg_mem hs hc x).1 h with h | h
    · omega
    · omega
  · exact sign_mins hp h
theorem cheats_step {l pump : List S54} (hs : Sign l) (hp : Sign pump) {lo hi m : Int} (hc : Clk lo hi) (h1 : 1 ≤ m) (h2 : m ≤ 2000) (hm : m ∉ minutesL lo hi l pump) : Cheats l pump lo hi m ↔ Cheats l pump lo hi (m - 1) := by
  rw [minutes_mem hs hc] at hm
  unfold Cheats
  rw [fairV_step hs hc h1 h2 fun h => hm (.inl h), atV_step hp fun h => hm (.inr h)]
/-- the least minute at which it cheats is one of those -/
theorem least_min {l pump : List S54} (hs : Sign l) (hp : Sign pump) {lo hi : Int} (hc : Clk lo hi) : ∀ (n : Nat), (n : Int) ≤ 2000 → Cheats l pump lo hi n → ∃ m, m ∈ minutesL lo hi l pump ∧ m ≤ n ∧ Cheats l pump lo hi m
  | 0 => fun _ h => ⟨0, (minutes_mem hs hc 0).2 (.inl ((chg_mem hs hc 0).2 (.inl rfl))), Int.le_refl _, h⟩
  | n + 1 => fun hn h => by
    by_cases hm : ((n + 1 : Nat) : Int) ∈ minutesL lo hi l pump
    · exact ⟨_, hm, Int.le_refl _, h⟩
    · have h1 := (cheats_step hs hp hc (by omega) hn hm).1 h
      rw [show ((n + 1 : Nat) : Int) - 1 = (n : Int) by omega] at h1
      obtain ⟨m, a, b, c⟩ := least_min hs hp hc n (by omega) h1
      exact ⟨m, a, by omega, c⟩
theorem cheatR_spec {l pump : List S54} (hs : Sign l) (hp : Sign pump) {lo hi : Int} (hc : Clk lo hi) : CheatSpec l pump lo hi (cheatR l pump lo hi (minutesL lo hi l pump)) := by
  have hP : ∀ m, m ∈ minutesL lo hi l pump → (cheatP l pump lo hi m = true ↔ Cheats l pump lo hi m) := by
    intro m hm
    have := minutes_rng hs hp hc hm
    unfold cheatP
    rw [cheatO_eq hs hp hc this.1 this.2]
    simp
  have hsort : (minutesL lo hi l pump).Pairwise (· ≤ ·) := sort_up _
  unfold cheatR idxP
  cases hf : (minutesL lo hi l pump).findIdx? (cheatP l pump lo hi) with
  | none =>
    rw [List.findIdx?_eq_none_iff] at hf
    left
    refine ⟨by simp, fun m h1 h2 hm => ?_⟩
    obtain ⟨n, rfl⟩ : ∃ n : Nat, m = n := ⟨m.toNat, by omega⟩
    obtain ⟨m', a, b, c⟩ := least_min hs hp hc n h2 hm
    have := hf m' a
    rw [(hP m' a).2 c] at this
    cases this
  | some i =>
    obtain ⟨hil, h1, h2⟩ := List.findIdx?_eq_some_iff_getElem.1 hf
    right
    have hmem := List.getElem_mem hil
    have hr := minutes_rng hs hp hc hmem
    refine ⟨(minutesL lo hi l pump)[i], ?_, hr.1, hr.2, (hP _ hmem).1 h1, fun m' h3 h4 h5 => ?_⟩
    · simp only
      rw [if_neg (by omega), rd_nat _ i hil]
    · obtain ⟨n, rfl⟩ : ∃ n : Nat, m' = n := ⟨m'.toNat, by omega⟩
      obtain ⟨m, a, b, c⟩ := least_min hs hp hc n (by omega) h5
      obtain ⟨j, hj, rfl⟩ := List.mem_iff_getElem.1 a
      rcases Nat.lt_or_ge j i with h6 | h6
      · have := h2 j h6
        rw [(hP _ a).2 c] at this
        simp at this
      · have h7 : (minutesL lo hi l pump)[i] ≤ (minutesL lo hi l pump)[j] := by
          rcases Nat.lt_or_ge i j with h8 | h8
          · exact List.pairwise_iff_getElem.1 hsort i j hil hj h8
          · have : i = j := by omega
            subst this
            exact Int.le_refl _
        omega
theorem cheat_all {l pump : List S54} (hs : Sign l) (hp : Sign pump) {lo hi : Int} (hc : Clk lo hi) : (minutesL lo hi l pump).all (fun m => (cheatO l pump lo hi m).isSome) = true := by
  rw [List.all_eq_true]
  intro m hm
  have := minutes_rng hs hp hc hm
  rw [cheatO_eq hs hp hc this.1 this.2]
  rfl
theorem pole_Cheat_eq {l pump : List S54} (hs : signE l = 0) (hp : signE pump = 0) {lo hi : Int} (hc : Clk lo hi) : ∃ v, pole_Cheat.f l pump lo hi = some v ∧ CheatSpec l pump lo hi v := by
  unfold pole_Cheat.f
  rw [if_pos hs, if_pos hp, checkClocks_eq, if_pos hs, if_pos (clockB_iff.2 hc), Option.bind_some, if_pos rfl, if_pos (cheat_all (signE_sign hs) (signE_sign hp) hc)]
  exact ⟨_, rfl, cheatR_spec (signE_sign hs) (signE_sign hp) hc⟩
theorem cheat_same (l pump : List S54) (lo hi : Int) (k : Nat) (hk : 800000 ≤ k) : ∃ v, pole_Cheat.f l pump lo hi = some v ∧ forecourtref09_Cheat.f k l pump lo hi = some v := by
  unfold forecourtref09_Cheat.f
  rw [refCS l k (by omega), refCS pump k (by omega), isClocks_eq]
  simp only [Option.bind_some]
  by_cases h : signE l = 0
  · rw [if_pos h]
    by_cases h' : signE pump = 0
    · rw [if_pos h']
      by_cases hc : clockB lo hi = true
      · rw [if_pos hc, rf_eq (signE_sign h) (clockB_iff.1 hc) k (by omega), Option.bind_some]
        obtain ⟨v, h1, h2⟩ := pole_Cheat_eq h h' (clockB_iff.1 hc)
        obtain ⟨u, h3, h4⟩ := refCheat_l0 (l := l) (signE_sign h') (lo := lo) (hi := hi) 2001 k 0 (by omega) (by omega) (fun m a b => by omega)
        exact ⟨v, h1, by rw [h2.uniq h4]; exact h3⟩
      · rw [if_neg hc]
        unfold pole_Cheat.f
        rw [if_pos h, if_pos h', checkClocks_eq, if_pos h, if_neg hc]
        exact ⟨_, rfl, rfl⟩
    · rw [if_neg h']
      unfold pole_Cheat.f
      rw [if_pos h, if_neg h']
      exact ⟨_, rfl, rfl⟩
  · rw [if_neg h]
    unfold pole_Cheat.f
    rw [if_neg h]
    exact ⟨_, rfl, rfl⟩
end Go.Proofs.Ytcgdbjojjpoegaa.P

namespace Go.Proofs.Ytcgdbjojjpoegaa.P
open Go.RowKit Go.Proofs.YtcgdbjojjpoegaaW.PrintWords Go.Proofs.YtcgdbjojjpoegaaW.PrintLast Go.Proofs.YtcgdbjojjpoegaaW.PrintMore
set_option linter.unusedVariables false
set_option linter.unusedSimpArgs false

/-- where no change comes the fair price stays -/
theorem fairV_const {l : List S54} (hs : Sign l) {lo hi c : Int} (hc : Clk lo hi) (h0 : 0 ≤ c) : ∀ n : Nat, c + n ≤ 2000 → (∀ t, c < t → t ≤ c + n → t ∉ changesC lo hi l) → fairV l lo hi (c + n) = fairV l lo hi c
  | 0 => fun _ _ => by rw [show c + ((0 : Nat) : Int) = c by omega]
  | n + 1 => fun h1 h2 => by
    have h3 := fairV_step hs hc (m := c + ((n + 1 : Nat) : Int)) (by omega) h1 (h2 _ (by omega) (Int.le_refl _))
    rw [show c + ((n + 1 : Nat) : Int) - 1 = c + (n : Int) by omega] at h3
    rw [h3]
    exact fairV_const hs hc h0 n (by omega) fun t a b => h2 t a (by omega)
/-- the fair price changes at a minute -/
def newB (l : List S54) (lo hi m : Int) : Bool := decide (m = 0) || decide (fairV l lo hi m ≠ fairV l lo hi (m - 1))
def mkP (l : List S54) (lo hi m : Int) : S54 := ⟨m, fairV l lo hi m⟩
def highs (l : List S54) (lo hi : Int) (ms : List Int) : List S54 := (ms.filter (newB l lo hi)).map (mkP l lo hi)
theorem rd_last (out : List S54) (p : S54) : rd_T54 (out ++ [p]) (((out ++ [p]).length : Int) - 1) = p := by
  have h : (((out ++ [p]).length : Int) - 1) = (out.length : Nat) := by simp
  rw [h, rdP _ _ (by simp)]
  simp
theorem chg_rng {l : List S54} (hs : Sign l) {lo hi : Int} (hc : Clk lo hi) {x : Int} (h : x ∈ changesL lo hi l) : 0 ≤ x ∧ x ≤ 2000 := by
  rcases (chg_mem hs hc x).1 ((changes_mem lo hi l x).1 h) with h | h <;> omega
theorem high_go {l : List S54} (hs : Sign l) {lo hi : Int} (hc : Clk lo hi) : ∀ (ms pre : List Int) (c : Int) (out : List S54), changesL lo hi l = pre ++ c :: ms → (∃ o p, out = o ++ [p] ∧ p.f1 = fairV l lo hi c) → highO l lo hi ms out = some (out ++ highs l lo hi ms)
  | [], pre, c, out, _, _ => by simp [highO, highs]
  | m :: ms, pre, c, out, he, ⟨o, p, ho, hp⟩ => by
    have hup := changes_up lo hi l
    rw [he] at hup
    rw [List.pairwise_append, List.pairwise_cons, List.pairwise_cons] at hup
    obtain ⟨_, ⟨hc1, hm1, _⟩, hx⟩ := hup
    have hcm : c < m := hc1 m (by simp)
    have rc := chg_rng hs hc (x := c) (by rw [he]; simp)
    have rm := chg_rng hs hc (x := m) (by rw [he]; simp)
    have hno : ∀ t, c < t → t ≤ c + ((m - 1 - c).toNat : Int) → t ∉ changesC lo hi l := by
      intro t h1 h2 h3
      have h4 := (changes_mem lo hi l t).2 h3
      rw [he, List.mem_append, List.mem_cons, List.mem_cons] at h4
      rcases h4 with h4 | h4 | h4 | h4
      · have := hx t h4 c (by simp); omega
      · omega
      · omega
      · have := hm1 t h4; omega
    have hF : fairV l lo hi (m - 1) = fairV l lo hi c := by
      have := fairV_const hs hc rc.1 (m - 1 - c).toNat (by omega) hno
      rwa [show c + ((m - 1 - c).toNat : Int) = m - 1 by omega] at this
    have hne : out.length ≠ 0 := by rw [ho]; simp
    have hlast : (rd_T54 out ((out.length : Int) - 1)).f1 = fairV l lo hi c := by rw [ho, rd_last, hp]
    rw [highO, (fairV_some hs hc (by omega) (by omega)).1, Option.bind_some]
    have hstep : highStep out ⟨m, fairV l lo hi m⟩ = out ++ (if newB l lo hi m = true then [mkP l lo hi m] else []) := by
      unfold highStep
      rw [hlast]
      by_cases h1 : fairV l lo hi c ≠ fairV l lo hi m
      · have h2 : newB l lo hi m = true := by
          unfold newB
          rw [hF]
          simp [Ne.symm h1]
        rw [if_pos (.inr h1), if_pos h2]
        rfl
      · have h2 : ¬ newB l lo hi m = true := by
          unfold newB
          rw [hF]
          have h3 : fairV l lo hi m = fairV l lo hi c := by
            rcases Decidable.em (fairV l lo hi c = fairV l lo hi m) with h | h
            · exact h.symm
            · exact absurd h h1
          simp [h3]
          omega
        rw [if_neg (by rintro (h | h); exact hne h; exact h1 h), if_neg h2, List.append_nil]
    rw [hstep, high_go hs hc ms (pre ++ [c]) m _ (by rw [he, List.append_assoc]; rfl) ?_]
    · unfold highs
      rw [List.filter_cons]
      by_cases h2 : newB l lo hi m = true
      · rw [if_pos h2, if_pos h2, List.map_cons, List.append_assoc]
        rfl
      · rw [if_neg h2, if_neg h2, List.append_nil]
    · by_cases h2 : newB l lo hi m = true
      · rw [if_pos h2]
        exact ⟨out, _, rfl, rfl⟩
      · rw [if_neg h2, List.append_nil]
        refine ⟨o, p, ho, hp.trans ?_⟩
        unfold newB at h2
        simp only [Bool.or_eq_true, decide_eq_true_eq, not_or, ne_eq, Decidable.not_not] at h2
        rw [h2.2, hF]
theorem changes_head {l : List S54} (hs : Sign l) {lo hi : Int} (hc : Clk lo hi) : ∃ ms, changesL lo hi l = 0 :: ms := by
  have h0 : (0 : Int) ∈ changesL lo hi l := (changes_mem lo hi l 0).2 ((chg_mem hs hc 0).2 (.inl rfl))
  have hup := changes_up lo hi l
  cases he : changesL lo hi l with
  | nil => rw [he] at h0; simp at h0
  | cons c ms =>
    have hr := chg_rng hs hc (x := c) (by rw [he]; simp)
    rw [he] at h0 hup
    rw [List.pairwise_cons] at hup
    rw [List.mem_cons] at h0
    rcases h0 with h0 | h0
    · exact ⟨ms, by rw [h0]⟩
    · have := hup.1 0 h0
      omega
theorem highO_eq {l : List S54} (hs : Sign l) {lo hi : Int} (hc : Clk lo hi) : highO l lo hi (changesL lo hi l) [] = some (highs l lo hi (changesL lo hi l)) := by
  obtain ⟨ms, he⟩ := changes_head hs hc
  rw [he, highO, (fairV_some hs hc (by omega) (by omega)).1, Option.bind_some]
  have h1 : highStep [] ⟨0, fairV l lo hi 0⟩ = [mkP l lo hi 0] := rfl
  rw [h1, high_go hs hc ms [] 0 [mkP l lo hi 0] he ⟨[], _, rfl, rfl⟩]
  unfold highs
  rw [List.filter_cons, if_pos (by rfl), List.map_cons]
  rfl
/-- the minutes from 0 on -/
def mins (n : Nat) : List Int := (List.range n).map fun (j : Nat) => (j : Int)
theorem mins_snoc (n : Nat) : mins (n + 1) = mins n ++ [(n : Int)] := by
  unfold mins
  rw [List.range_succ, List.map_append]
  rfl
theorem mins_mem (n : Nat) (x : Int) : x ∈ mins n ↔ 0 ≤ x ∧ x < n := by
  unfold mins
  rw [List.mem_map]
  constructor
  · rintro ⟨j, hj, rfl⟩
    rw [List.mem_range] at hj
    omega
  · rintro ⟨h1, h2⟩
    exact ⟨x.toNat, by rw [List.mem_range]; omega, by omega⟩
theorem mins_up (n : Nat) : (mins n).Pairwise (· < ·) := by
  induction n with
  | zero => simp [mins]
  | succ n ih =>
    rw [mins_snoc, List.pairwise_append]
    refine ⟨ih, by simp, fun a ha b hb => ?_⟩
    rw [mins_mem] at ha
    rw [List.mem_singleton] at hb
    omega
set_option maxRecDepth 20000 in
theorem highs_mins {l : List S54} (hs : Sign l) {lo hi : Int} (hc : Clk lo hi) : highs l lo hi (changesL lo hi l) = highs l lo hi (mins 2001) := by
  unfold highs
  refine congrArg (List.map (mkP l lo hi)) ?_
  refine up_eq _ _ ((changes_up lo hi l).filter _) ((mins_up 2001).filter _) fun x => ?_
  rw [List.mem_filter, List.mem_filter, mins_mem, changes_mem]
  refine ⟨fun ⟨h1, h2⟩ => ⟨?_, h2⟩, fun ⟨h1, h2⟩ => ⟨?_, h2⟩⟩
  · have := chg_rng hs hc ((changes_mem lo hi l x).2 h1)
    omega
  · by_cases h0 : x = 0
    · exact (chg_mem hs hc x).2 (.inl h0)
    · refine Decidable.byContradiction fun h3 => ?_
      have h4 := fairV_step hs hc (by omega) (by omega) h3
      unfold newB at h2
      simp [h0, h4] at h2
theorem highs_snoc (l : List S54) (lo hi : Int) (n : Nat) : highs l lo hi (mins (n + 1)) = highs l lo hi (mins n) ++ (if newB l lo hi n = true then [mkP l lo hi n] else []) := by
  unfold highs
  rw [mins_snoc, List.filter_append, List.map_append]
  congr 1
  by_cases h : newB l lo hi n = true
  · simp [h]
  · simp [h]
theorem highs_len (l : List S54) (lo hi : Int) (n : Nat) : (highs l lo hi (mins n)).length ≤ n := by
  unfold highs
  rw [List.length_map]
  exact Nat.le_trans (List.length_filter_le _ _) (by simp [mins])
theorem refHigh_l0 (l : List S54) (lo hi : Int) : ∀ (n k i : Nat), i + n = 2001 → n + 5 < k → forecourtref09_Highest.l0 k (fairs l lo hi 2001) (highs l lo hi (mins i)) (i : Int) = some (highs l lo hi (mins 2001), 0)
  | n, 0, i => fun _ hk => by omega
  | 0, k + 1, i => fun hi' hk => by
    rw [forecourtref09_Highest.l0, if_neg (by omega), show i = 2001 by omega]
  | n + 1, k + 1, i => fun hi' hk => by
    have hl := highs_len l lo hi i
    have hr : rd (fairs l lo hi 2001) (i : Int) = fairV l lo hi i := rd_fairs l lo hi 2001 _ (by omega) (by omega)
    have ih := refHigh_l0 l lo hi n k (i + 1) (by omega) (by omega)
    rw [highs_snoc] at ih
    rw [forecourtref09_Highest.l0, if_pos (by omega), hr, wrap_next i (by omega)]
    by_cases h0 : i = 0
    · subst h0
      rw [if_pos (by rfl), if_pos (by omega), if_pos (by rw [fairs_len]; omega), if_pos (by omega)]
      exact ih
    · have hr2 : rd (fairs l lo hi 2001) ((i : Int) - 1) = fairV l lo hi ((i : Int) - 1) := rd_fairs l lo hi 2001 _ (by omega) (by omega)
      rw [if_neg (by omega), if_pos (by omega), if_pos (by rw [fairs_len]; omega), wrap_ok ((i : Int) - 1) (by omega) (by omega), if_pos (by omega), if_pos (by rw [fairs_len]; omega), hr2]
      by_cases h1 : fairV l lo hi (i : Int) = fairV l lo hi ((i : Int) - 1)
      · rw [if_pos h1]
        rw [if_neg (by unfold newB; simp [h0, h1]), List.append_nil] at ih
        exact ih
      · rw [if_neg h1, if_pos (by omega)]
        rw [if_pos (by unfold newB; simp [h1])] at ih
        exact ih
theorem pole_Highest_eq {l : List S54} (hs : signE l = 0) {lo hi : Int} (hc : Clk lo hi) : pole_Highest.f l lo hi = some (highs l lo hi (mins 2001), 0) := by
  unfold pole_Highest.f
  rw [checkClocks_eq, if_pos hs, if_pos (clockB_iff.2 hc), Option.bind_some, if_pos rfl, highO_eq (signE_sign hs) hc, Option.bind_some, highs_mins (signE_sign hs) hc]
theorem high_same (l : List S54) (lo hi : Int) (k : Nat) (hk : 800000 ≤ k) : ∃ v, pole_Highest.f l lo hi = some v ∧ forecourtref09_Highest.f k l lo hi = some v := by
  unfold forecourtref09_Highest.f
  rw [refCS l k (by omega), isClocks_eq]
  simp only [Option.bind_some]
  by_cases h : signE l = 0
  · rw [if_pos h]
    by_cases hc : clockB lo hi = true
    · rw [if_pos hc, rf_eq (signE_sign h) (clockB_iff.1 hc) k (by omega), Option.bind_some, pole_Highest_eq h (clockB_iff.1 hc)]
      exact ⟨_, rfl, refHigh_l0 l lo hi 2001 k 0 (by omega) (by omega)⟩
    · rw [if_neg hc]
      unfold pole_Highest.f
      rw [checkClocks_eq, if_pos h, if_neg hc]
      exact ⟨_, rfl, rfl⟩
  · rw [if_neg h]
    unfold pole_Highest.f
    rw [checkClocks_eq, if_neg h, Option.bind_some, if_neg h]
    exact ⟨_, rfl, rfl⟩
theorem prices_l0 (l : List S54) (hl : l.length ≤ 1000000) : ∀ (k i : Nat), l.length < k + i → i ≤ l.length → forecourtlaw09_prices.l0 k l l (i : Int) = some true
  | 0, i => fun h hi => by omega
  | k + 1, i => fun h hi => by
    unfold forecourtlaw09_prices.l0
    by_cases hlt : i < l.length
    · rw [if_pos (by omega), if_pos (by omega), if_pos (by omega), if_neg (by simp), wrap_next i (by omega)]
      exact prices_l0 l hl k (i + 1) (by omega) (by omega)
    · rw [if_neg (by omega)]
theorem prices_refl (l : List S54) (k : Nat) (hl : l.length ≤ 1000000) (hk : l.length < k) : forecourtlaw09_prices.f k l l = some true := by
  unfold forecourtlaw09_prices.f
  rw [if_pos rfl]
  exact prices_l0 l hl k 0 (by omega) (by omega)
set_option maxRecDepth 20000 in
theorem high_len {l : List S54} {lo hi : Int} {v : List S54 × Int} (h : pole_Highest.f l lo hi = some v) : v.1.length ≤ 2001 := by
  by_cases hs : signE l = 0
  · by_cases hc : clockB lo hi = true
    · rw [pole_Highest_eq hs (clockB_iff.1 hc)] at h
      injection h with h
      subst h
      show (highs l lo hi (mins 2001)).length ≤ 2001
      exact highs_len l lo hi 2001
    · unfold pole_Highest.f at h
      rw [checkClocks_eq, if_pos hs, if_neg hc] at h
      injection h with h
      subst h
      exact Nat.zero_le _
  · unfold pole_Highest.f at h
    rw [checkClocks_eq, if_neg hs, Option.bind_some, if_neg hs] at h
    injection h with h
    subst h
    exact Nat.zero_le _
end Go.Proofs.Ytcgdbjojjpoegaa.P

namespace Go.Proofs.Ytcgdbjojjpoegaa.P
open Go.RowKit Go.Proofs.YtcgdbjojjpoegaaW.PrintWords Go.Proofs.YtcgdbjojjpoegaaW.PrintLast Go.Proofs.YtcgdbjojjpoegaaW.PrintMore
attribute [local go_sem] max2_int min2_int max_two min_two max_three min_three max_four min_four   -- for this text's walks alone
set_option linter.unusedVariables false
set_option linter.unusedSimpArgs false

/-! ### forecourtlaw09_PoleCheats: function 4 -/
def forecourtlaw09_PoleCheats.j0 : Nat → List (S54) → List (S54) → Bool → Int → Int → Option (Bool)
  | 0, _, _, _, _, _ => none
  | k + 1, x0, x1, x22, x457000, x457001 => if x22 = true then ((forecourtlaw09_Works.f).bind fun t457 => (some t457)) else ((pole_Cheat.f x0 x1 x457000 x457001).bind fun bt458 => ((forecourtref09_Cheat.f k x0 x1 x457000 x457001).bind fun bt460 => ((pole_Highest.f x0 x457000 x457001).bind fun bt462 => ((forecourtref09_Highest.f k x0 x457000 x457001).bind fun bt466 => (if bt458.1 = bt460.1 then (if bt458.2 = bt460.2 then ((forecourtlaw09_prices.f k bt462.1 bt466.1).bind fun t470 => (if t470 = true then (if bt462.2 = bt466.2 then ((forecourtlaw09_Works.f).bind fun t471 => (some t471)) else (some false)) else (some false))) else (some false)) else (some false))))))
def forecourtlaw09_PoleCheats.f (k : Nat) (l0 : List (S54)) (l1 : List (S54)) (a2_0 : Int) (a2_1 : Int) : Option (Bool) := if (l0.length : Int) > 40 then (forecourtlaw09_PoleCheats.j0 k l0 l1 true a2_0 a2_1) else (forecourtlaw09_PoleCheats.j0 k l0 l1 (decide ((l1.length : Int) > 40)) a2_0 a2_1)
set_option maxHeartbeats 8000000 in
set_option maxRecDepth 100000 in
theorem forecourtlaw09_PoleCheats.calls (k : Nat) (A0 : Option Addr) (c0 : Nat) (l0 : List (S54)) (A1 : Option Addr) (c1 : Nat) (l1 : List (S54)) (a2_0 : Int) (a2_1 : Int) (r : Bool) (w : World) (hr0 : Kd.C k54 w A0 l0.length l0) (hc0 : l0.length ≤ c0) (hr1 : Kd.C k54 w A1 l1.length l1) (hc1 : l1.length ≤ c1) (h : forecourtlaw09_PoleCheats.f k l0 l1 a2_0 a2_1 = some r) :
    Calls Try.prog 4 #[.slice A0 l0.length c0, .slice A1 l1.length c1, .agg #[.int .i64 a2_0, .int .i64 a2_1]] w fun e w' => e = .returned (.bool r) ∧ Below w.heap.size w w' := by
  have hu24 := Try.underlying24
  have HR0 := Aside0.mk hr0
  have HC0 := Aside0.mk hc0
  clear hr0 hc0
  have HR1 := Aside0.mk hr1
  have HC1 := Aside0.mk hc1
  clear hr1 hc1
  have HB := Aside0.mk (Below.refl w.heap.size w)
  have H : (if (l0.length : Int) > 40 then (forecourtlaw09_PoleCheats.j0 k l0 l1 true a2_0 a2_1) else (forecourtlaw09_PoleCheats.j0 k l0 l1 (decide ((l1.length : Int) > 40)) a2_0 a2_1)) = some r := h
  clear h
  have HC4 := Aside0.mk H
  clear H
  go_enter Try.func4, Try.ntmps4
  go_upto_region 1 with (first | ((with_reducible refine gate_dst (N := 5) rfl ?_); (try (refine gate_guard (by rfl) ?_; dsimp only)); refine bx_ (cs := #[.int .i64 a2_0, .int .i64 a2_1]) (t := 24) (fun gb456 w5 BK456 GE456 HB => ?_)))
  (try simp only [Act.put, List.setIfInBounds_toArray, List.set_cons_zero, List.set_cons_succ])
  go_cut [22] (fun v22 wc => ∃ (kq : Nat) (x22_3 : Bool), v22 = .bool x22_3 ∧ Aside0 (forecourtlaw09_PoleCheats.j0 kq l0 l1 x22_3 a2_0 a2_1 = some r) ∧ Aside0 (kq ≤ k) ∧ Aside0 (wc.heap[gb456]? = some (.cells #[.int .i64 a2_0, .int .i64 a2_1] 24 (0, 0))) ∧ Aside0 (Below w.heap.size w wc))
  case first =>
    have H := HC4.out
    clear HC4
    by_cases c6 : (l0.length : Int) > 40
    · rw [if_pos c6] at H
      have c6b0 : decide (40 < (l0.length : Int)) = true := decide_eq_true c6
      have c6b1 : decide (40 < l0.length) = true := decide_eq_true (by omega)
      clear c6
      (first | rw [c6b0] | (simp only [i64_w, i32_w]; rw [c6b0]) | skip)
      have H' := Aside0.mk H
      clear H
      go_wp2
      go_meet
      case rel => exact ⟨_, (true), b5_, H', ⟨b26_⟩, ⟨(by (with_reducible repeat (first | refine blk_drewN ?_ _ | refine blk_drew ?_ | refine blk_alloc ?_ _)); exact BK456.out)⟩, ⟨b1_⟩⟩
    rw [if_neg c6] at H
    have c6b0 : decide (40 < (l0.length : Int)) = false := decide_eq_false c6
    have c6b1 : decide (40 < l0.length) = false := decide_eq_false (by omega)
    clear c6
    (first | rw [c6b0] | (simp only [i64_w, i32_w]; rw [c6b0]) | skip)
    have H' := Aside0.mk H
    clear H
    go_wp2
    go_meet
    case rel => exact ⟨_, (decide ((l1.length : Int) > 40)), b5_, H', ⟨b26_⟩, ⟨(by (with_reducible repeat (first | refine blk_drewN ?_ _ | refine blk_drew ?_ | refine blk_alloc ?_ _)); exact BK456.out)⟩, ⟨b1_⟩⟩
  clear HC4
  try clear c1
  try clear p2
  try clear c4
  try clear c6
  try clear c6b0
  try clear c6b1
  obtain ⟨kq, x22_3, rfl, HA, HJ3, BK456, HB⟩ := hcut
  cases kq with
  | zero => exact absurd HA.out (by simp [forecourtlaw09_PoleCheats.j0])
  | succ kj3 => ?_
  have H := HA.out
  clear HA
  simp only [forecourtlaw09_PoleCheats.j0] at H
  by_cases c7 : x22_3 = true
  · subst c7
    have H1 : ((forecourtlaw09_Works.f).bind fun t457 => (some t457)) = some r := by rw [if_pos rfl] at H; exact H
    clear H
    have H := H1
    clear H1
    replace H := Option.bind_eq_some_iff.mp H
    obtain ⟨t457, A80, H⟩ := H
    replace H : (some t457) = some r := H
    have A8 := Aside0.mk A80
    clear A80
    obtain rfl := Option.some.inj H
    go_wp2_with (first | ((with_reducible refine gate_callee (f := 15) rfl ?_); refine goesL_ (some 23) rfl rfl Try.func15 (by kernel_rfl) rfl #[] rfl b3_ ?_; (with_reducible refine (forecourtlaw09_Works.calls  t457 _ A8.out).mono ?_); rintro e w9 ⟨rfl, hb⟩; refine ⟨_, rfl, ?_⟩; replace BK456 := bk_ BK456 hb; replace HB := hB_ HB hb; (try clear hb)))
    go_ret
    exact ⟨b4_, b1_⟩
  replace c7 := Bool.eq_false_iff.mpr c7
  subst c7
  have H1 : ((pole_Cheat.f l0 l1 a2_0 a2_1).bind fun bt458 => ((forecourtref09_Cheat.f kj3 l0 l1 a2_0 a2_1).bind fun bt460 => ((pole_Highest.f l0 a2_0 a2_1).bind fun bt462 => ((forecourtref09_Highest.f kj3 l0 a2_0 a2_1).bind fun bt466 => (if bt458.1 = bt460.1 then (if bt458.2 = bt460.2 then ((forecourtlaw09_prices.f kj3 bt462.1 bt466.1).bind fun t470 => (if t470 = true then (if bt462.2 = bt466.2 then ((forecourtlaw09_Works.f).bind fun t471 => (some t471)) else (some false)) else (some false))) else (some false)) else (some false)))))) = some r := by rw [if_neg (show ¬ (false = true) by decide)] at H; exact H
  clear H
  have H := H1
  clear H1
  replace H := Option.bind_eq_some_iff.mp H
  obtain ⟨⟨t458, t459⟩, A100, H⟩ := H
  replace H : ((forecourtref09_Cheat.f kj3 l0 l1 a2_0 a2_1).bind fun bt460 => ((pole_Highest.f l0 a2_0 a2_1).bind fun bt462 => ((forecourtref09_Highest.f kj3 l0 a2_0 a2_1).bind fun bt466 => (if t458 = bt460.1 then (if t459 = bt460.2 then ((forecourtlaw09_prices.f kj3 bt462.1 bt466.1).bind fun t470 => (if t470 = true then (if bt462.2 = bt466.2 then ((forecourtlaw09_Works.f).bind fun t471 => (some t471)) else (some false)) else (some false))) else (some false)) else (some false))))) = some r := H
  have A10 := Aside0.mk A100
  clear A100
  replace H := Option.bind_eq_some_iff.mp H
  obtain ⟨⟨t460, t461⟩, A110, H⟩ := H
  replace H : ((pole_Highest.f l0 a2_0 a2_1).bind fun bt462 => ((forecourtref09_Highest.f kj3 l0 a2_0 a2_1).bind fun bt466 => (if t458 = t460 then (if t459 = t461 then ((forecourtlaw09_prices.f kj3 bt462.1 bt466.1).bind fun t470 => (if t470 = true then (if bt462.2 = bt466.2 then ((forecourtlaw09_Works.f).bind fun t471 => (some t471)) else (some false)) else (some false))) else (some false)) else (some false)))) = some r := H
  have A11 := Aside0.mk A110
  clear A110
  replace H := Option.bind_eq_some_iff.mp H
  obtain ⟨⟨t462, t465⟩, A120, H⟩ := H
  replace H : ((forecourtref09_Highest.f kj3 l0 a2_0 a2_1).bind fun bt466 => (if t458 = t460 then (if t459 = t461 then ((forecourtlaw09_prices.f kj3 t462 bt466.1).bind fun t470 => (if t470 = true then (if t465 = bt466.2 then ((forecourtlaw09_Works.f).bind fun t471 => (some t471)) else (some false)) else (some false))) else (some false)) else (some false))) = some r := H
  have A12 := Aside0.mk A120
  clear A120
  replace H := Option.bind_eq_some_iff.mp H
  obtain ⟨⟨t466, t469⟩, A130, H⟩ := H
  replace H : (if t458 = t460 then (if t459 = t461 then ((forecourtlaw09_prices.f kj3 t462 t466).bind fun t470 => (if t470 = true then (if t465 = t469 then ((forecourtlaw09_Works.f).bind fun t471 => (some t471)) else (some false)) else (some false))) else (some false)) else (some false)) = some r := H
  have A13 := Aside0.mk A130
  clear A130
  by_cases c14 : t458 = t460
  rotate_left
  · rw [if_neg c14] at H
    have c14b0 : (t458 == t460) = false := beq_eq_false_iff_ne.mpr c14
    have c14b1 : (t458 != t460) = true := bne_iff_ne.mpr c14
    obtain rfl := Option.some.inj H
    obtain ⟨hcz59_0, hcz59_1, hfz59_0, hfz59_1⟩ := cz2_ BK456.out
    go_wp2_with (first | ((with_reducible refine gate_callee (f := 22) rfl ?_); refine goesL_ (some 28) rfl rfl Try.func22 (by kernel_rfl) rfl #[.slice A0 l0.length c0, .slice A1 l1.length c1, .agg #[.int .i64 a2_0, .int .i64 a2_1]] rfl b3_ ?_; (with_reducible refine (pole_Cheat.calls _ _ l0 _ _ l1 a2_0 a2_1 t458 t459 _ ?side1 ?side2 ?side3 ?side4 A10.out).mono ?_); (case side1 => repeat (first | exact (Kd.C_below HR0.out HB.out) | (with_reducible refine Kd.C_alloc ?_ _) | (with_reducible refine Kd.C_drewN ?_ _) | (with_reducible refine Kd.C_drew ?_))); (case side2 => exact HC0.out); (case side3 => repeat (first | exact (Kd.C_below HR1.out HB.out) | (with_reducible refine Kd.C_alloc ?_ _) | (with_reducible refine Kd.C_drewN ?_ _) | (with_reducible refine Kd.C_drew ?_))); (case side4 => exact HC1.out); rintro e w60 ⟨rfl, hb⟩; refine ⟨_, rfl, ?_⟩; replace BK456 := bk_ BK456 hb; replace HB := hB_ HB hb; (try clear hb); obtain ⟨hcz61_0, hcz61_1, hfz61_0, hfz61_1⟩ := cz2_ BK456.out) | ((with_reducible refine gate_callee (f := 23) rfl ?_); refine goesL_ (some 35) rfl rfl Try.func23 (by kernel_rfl) rfl #[.slice A0 l0.length c0, .slice A1 l1.length c1, .agg #[.int .i64 a2_0, .int .i64 a2_1]] rfl b3_ ?_; (with_reducible refine (forecourtref09_Cheat.calls kj3 _ _ l0 _ _ l1 a2_0 a2_1 t460 t461 _ ?side1 ?side2 ?side3 ?side4 A11.out).mono ?_); (case side1 => repeat (first | exact (Kd.C_below HR0.out HB.out) | (with_reducible refine Kd.C_alloc ?_ _) | (with_reducible refine Kd.C_drewN ?_ _) | (with_reducible refine Kd.C_drew ?_))); (case side2 => exact HC0.out); (case side3 => repeat (first | exact (Kd.C_below HR1.out HB.out) | (with_reducible refine Kd.C_alloc ?_ _) | (with_reducible refine Kd.C_drewN ?_ _) | (with_reducible refine Kd.C_drew ?_))); (case side4 => exact HC1.out); rintro e w62 ⟨rfl, hb⟩; refine ⟨_, rfl, ?_⟩; replace BK456 := bk_ BK456 hb; replace HB := hB_ HB hb; (try clear hb); obtain ⟨hcz63_0, hcz63_1, hfz63_0, hfz63_1⟩ := cz2_ BK456.out) | ((with_reducible refine gate_callee (f := 24) rfl ?_); refine goesL_ (some 41) rfl rfl Try.func24 (by kernel_rfl) rfl #[.slice A0 l0.length c0, .agg #[.int .i64 a2_0, .int .i64 a2_1]] rfl b3_ ?_; (with_reducible refine (pole_Highest.calls _ _ l0 a2_0 a2_1 t462 t465 _ ?side1 ?side2 A12.out).mono ?_); (case side1 => repeat (first | exact (Kd.C_below HR0.out HB.out) | (with_reducible refine Kd.C_alloc ?_ _) | (with_reducible refine Kd.C_drewN ?_ _) | (with_reducible refine Kd.C_drew ?_))); (case side2 => exact HC0.out); rintro e w64 ⟨v463, rfl, ho0, hb⟩; refine ⟨_, rfl, ?_⟩; have HO464 := Aside0.mk (Kd.R_lower ho0 (below_size b1_)); replace BK456 := bk_ BK456 hb; replace HB := hB_ HB hb; (try clear hb); obtain ⟨hcz65_0, hcz65_1, hfz65_0, hfz65_1⟩ := cz2_ BK456.out) | ((with_reducible refine gate_callee (f := 25) rfl ?_); refine goesL_ (some 47) rfl rfl Try.func25 (by kernel_rfl) rfl #[.slice A0 l0.length c0, .agg #[.int .i64 a2_0, .int .i64 a2_1]] rfl b3_ ?_; (with_reducible refine (forecourtref09_Highest.calls kj3 _ _ l0 a2_0 a2_1 t466 t469 _ ?side1 ?side2 A13.out).mono ?_); (case side1 => repeat (first | exact (Kd.C_below HR0.out HB.out) | (with_reducible refine Kd.C_alloc ?_ _) | (with_reducible refine Kd.C_drewN ?_ _) | (with_reducible refine Kd.C_drew ?_))); (case side2 => exact HC0.out); rintro e w66 ⟨v467, rfl, ho0, hb⟩; refine ⟨_, rfl, ?_⟩; have HO468 := Aside0.mk (Kd.R_lower (Kd.R_new' ho0 (Kd.R_lt b20_)) (below_size b1_)); replace HO464 := Aside0.mk (Kd.R_elder' b20_ (Kd.R_base ho0) hb); replace BK456 := bk_ BK456 hb; replace HB := hB_ HB hb; (try clear hb)))
    go_ret
    exact ⟨b4_, b1_⟩
  rw [if_pos c14] at H
  have c14b0 : (t458 == t460) = true := beq_iff_eq.mpr c14
  have c14b1 : (t458 != t460) = false := bne_eq_false_iff_eq.mpr c14
  clear c14
  by_cases c15 : t459 = t461
  rotate_left
  · rw [if_neg c15] at H
    have c15b0 : (t459 == t461) = false := beq_eq_false_iff_ne.mpr c15
    have c15b1 : (t459 != t461) = true := bne_iff_ne.mpr c15
    obtain rfl := Option.some.inj H
    obtain ⟨hcz51_0, hcz51_1, hfz51_0, hfz51_1⟩ := cz2_ BK456.out
    go_wp2_with (first | ((with_reducible refine gate_callee (f := 22) rfl ?_); refine goesL_ (some 28) rfl rfl Try.func22 (by kernel_rfl) rfl #[.slice A0 l0.length c0, .slice A1 l1.length c1, .agg #[.int .i64 a2_0, .int .i64 a2_1]] rfl b3_ ?_; (with_reducible refine (pole_Cheat.calls _ _ l0 _ _ l1 a2_0 a2_1 t458 t459 _ ?side1 ?side2 ?side3 ?side4 A10.out).mono ?_); (case side1 => repeat (first | exact (Kd.C_below HR0.out HB.out) | (with_reducible refine Kd.C_alloc ?_ _) | (with_reducible refine Kd.C_drewN ?_ _) | (with_reducible refine Kd.C_drew ?_))); (case side2 => exact HC0.out); (case side3 => repeat (first | exact (Kd.C_below HR1.out HB.out) | (with_reducible refine Kd.C_alloc ?_ _) | (with_reducible refine Kd.C_drewN ?_ _) | (with_reducible refine Kd.C_drew ?_))); (case side4 => exact HC1.out); rintro e w52 ⟨rfl, hb⟩; refine ⟨_, rfl, ?_⟩; replace BK456 := bk_ BK456 hb; replace HB := hB_ HB hb; (try clear hb); obtain ⟨hcz53_0, hcz53_1, hfz53_0, hfz53_1⟩ := cz2_ BK456.out) | ((with_reducible refine gate_callee (f := 23) rfl ?_); refine goesL_ (some 35) rfl rfl Try.func23 (by kernel_rfl) rfl #[.slice A0 l0.length c0, .slice A1 l1.length c1, .agg #[.int .i64 a2_0, .int .i64 a2_1]] rfl b3_ ?_; (with_reducible refine (forecourtref09_Cheat.calls kj3 _ _ l0 _ _ l1 a2_0 a2_1 t460 t461 _ ?side1 ?side2 ?side3 ?side4 A11.out).mono ?_); (case side1 => repeat (first | exact (Kd.C_below HR0.out HB.out) | (with_reducible refine Kd.C_alloc ?_ _) | (with_reducible refine Kd.C_drewN ?_ _) | (with_reducible refine Kd.C_drew ?_))); (case side2 => exact HC0.out); (case side3 => repeat (first | exact (Kd.C_below HR1.out HB.out) | (with_reducible refine Kd.C_alloc ?_ _) | (with_reducible refine Kd.C_drewN ?_ _) | (with_reducible refine Kd.C_drew ?_))); (case side4 => exact HC1.out); rintro e w54 ⟨rfl, hb⟩; refine ⟨_, rfl, ?_⟩; replace BK456 := bk_ BK456 hb; replace HB := hB_ HB hb; (try clear hb); obtain ⟨hcz55_0, hcz55_1, hfz55_0, hfz55_1⟩ := cz2_ BK456.out) | ((with_reducible refine gate_callee (f := 24) rfl ?_); refine goesL_ (some 41) rfl rfl Try.func24 (by kernel_rfl) rfl #[.slice A0 l0.length c0, .agg #[.int .i64 a2_0, .int .i64 a2_1]] rfl b3_ ?_; (with_reducible refine (pole_Highest.calls _ _ l0 a2_0 a2_1 t462 t465 _ ?side1 ?side2 A12.out).mono ?_); (case side1 => repeat (first | exact (Kd.C_below HR0.out HB.out) | (with_reducible refine Kd.C_alloc ?_ _) | (with_reducible refine Kd.C_drewN ?_ _) | (with_reducible refine Kd.C_drew ?_))); (case side2 => exact HC0.out); rintro e w56 ⟨v463, rfl, ho0, hb⟩; refine ⟨_, rfl, ?_⟩; have HO464 := Aside0.mk (Kd.R_lower ho0 (below_size b1_)); replace BK456 := bk_ BK456 hb; replace HB := hB_ HB hb; (try clear hb); obtain ⟨hcz57_0, hcz57_1, hfz57_0, hfz57_1⟩ := cz2_ BK456.out) | ((with_reducible refine gate_callee (f := 25) rfl ?_); refine goesL_ (some 47) rfl rfl Try.func25 (by kernel_rfl) rfl #[.slice A0 l0.length c0, .agg #[.int .i64 a2_0, .int .i64 a2_1]] rfl b3_ ?_; (with_reducible refine (forecourtref09_Highest.calls kj3 _ _ l0 a2_0 a2_1 t466 t469 _ ?side1 ?side2 A13.out).mono ?_); (case side1 => repeat (first | exact (Kd.C_below HR0.out HB.out) | (with_reducible refine Kd.C_alloc ?_ _) | (with_reducible refine Kd.C_drewN ?_ _) | (with_reducible refine Kd.C_drew ?_))); (case side2 => exact HC0.out); rintro e w58 ⟨v467, rfl, ho0, hb⟩; refine ⟨_, rfl, ?_⟩; have HO468 := Aside0.mk (Kd.R_lower (Kd.R_new' ho0 (Kd.R_lt b20_)) (below_size b1_)); replace HO464 := Aside0.mk (Kd.R_elder' b20_ (Kd.R_base ho0) hb); replace BK456 := bk_ BK456 hb; replace HB := hB_ HB hb; (try clear hb)))
    go_ret
    exact ⟨b4_, b1_⟩
  rw [if_pos c15] at H
  have c15b0 : (t459 == t461) = true := beq_iff_eq.mpr c15
  have c15b1 : (t459 != t461) = false := bne_eq_false_iff_eq.mpr c15
  clear c15
  replace H := Option.bind_eq_some_iff.mp H
  obtain ⟨t470, A160, H⟩ := H
  replace H : (if t470 = true then (if t465 = t469 then ((forecourtlaw09_Works.f).bind fun t471 => (some t471)) else (some false)) else (some false)) = some r := H
  have A16 := Aside0.mk A160
  clear A160
  by_cases c17 : t470 = true
  rotate_left
  · replace c17 := Bool.eq_false_iff.mpr c17
    subst c17
    have H1 : (some false) = some r := by rw [if_neg (show ¬ (false = true) by decide)] at H; exact H
    clear H
    have H := H1
    clear H1
    obtain rfl := Option.some.inj H
    obtain ⟨hcz41_0, hcz41_1, hfz41_0, hfz41_1⟩ := cz2_ BK456.out
    go_wp2_with (first | ((with_reducible refine gate_callee (f := 22) rfl ?_); refine goesL_ (some 28) rfl rfl Try.func22 (by kernel_rfl) rfl #[.slice A0 l0.length c0, .slice A1 l1.length c1, .agg #[.int .i64 a2_0, .int .i64 a2_1]] rfl b3_ ?_; (with_reducible refine (pole_Cheat.calls _ _ l0 _ _ l1 a2_0 a2_1 t458 t459 _ ?side1 ?side2 ?side3 ?side4 A10.out).mono ?_); (case side1 => repeat (first | exact (Kd.C_below HR0.out HB.out) | (with_reducible refine Kd.C_alloc ?_ _) | (with_reducible refine Kd.C_drewN ?_ _) | (with_reducible refine Kd.C_drew ?_))); (case side2 => exact HC0.out); (case side3 => repeat (first | exact (Kd.C_below HR1.out HB.out) | (with_reducible refine Kd.C_alloc ?_ _) | (with_reducible refine Kd.C_drewN ?_ _) | (with_reducible refine Kd.C_drew ?_))); (case side4 => exact HC1.out); rintro e w42 ⟨rfl, hb⟩; refine ⟨_, rfl, ?_⟩; replace BK456 := bk_ BK456 hb; replace HB := hB_ HB hb; (try clear hb); obtain ⟨hcz43_0, hcz43_1, hfz43_0, hfz43_1⟩ := cz2_ BK456.out) | ((with_reducible refine gate_callee (f := 23) rfl ?_); refine goesL_ (some 35) rfl rfl Try.func23 (by kernel_rfl) rfl #[.slice A0 l0.length c0, .slice A1 l1.length c1, .agg #[.int .i64 a2_0, .int .i64 a2_1]] rfl b3_ ?_; (with_reducible refine (forecourtref09_Cheat.calls kj3 _ _ l0 _ _ l1 a2_0 a2_1 t460 t461 _ ?side1 ?side2 ?side3 ?side4 A11.out).mono ?_); (case side1 => repeat (first | exact (Kd.C_below HR0.out HB.out) | (with_reducible refine Kd.C_alloc ?_ _) | (with_reducible refine Kd.C_drewN ?_ _) | (with_reducible refine Kd.C_drew ?_))); (case side2 => exact HC0.out); (case side3 => repeat (first | exact (Kd.C_below HR1.out HB.out) | (with_reducible refine Kd.C_alloc ?_ _) | (with_reducible refine Kd.C_drewN ?_ _) | (with_reducible refine Kd.C_drew ?_))); (case side4 => exact HC1.out); rintro e w44 ⟨rfl, hb⟩; refine ⟨_, rfl, ?_⟩; replace BK456 := bk_ BK456 hb; replace HB := hB_ HB hb; (try clear hb); obtain ⟨hcz45_0, hcz45_1, hfz45_0, hfz45_1⟩ := cz2_ BK456.out) | ((with_reducible refine gate_callee (f := 24) rfl ?_); refine goesL_ (some 41) rfl rfl Try.func24 (by kernel_rfl) rfl #[.slice A0 l0.length c0, .agg #[.int .i64 a2_0, .int .i64 a2_1]] rfl b3_ ?_; (with_reducible refine (pole_Highest.calls _ _ l0 a2_0 a2_1 t462 t465 _ ?side1 ?side2 A12.out).mono ?_); (case side1 => repeat (first | exact (Kd.C_below HR0.out HB.out) | (with_reducible refine Kd.C_alloc ?_ _) | (with_reducible refine Kd.C_drewN ?_ _) | (with_reducible refine Kd.C_drew ?_))); (case side2 => exact HC0.out); rintro e w46 ⟨v463, rfl, ho0, hb⟩; refine ⟨_, rfl, ?_⟩; have HO464 := Aside0.mk (Kd.R_lower ho0 (below_size b1_)); replace BK456 := bk_ BK456 hb; replace HB := hB_ HB hb; (try clear hb); obtain ⟨hcz47_0, hcz47_1, hfz47_0, hfz47_1⟩ := cz2_ BK456.out) | ((with_reducible refine gate_callee (f := 25) rfl ?_); refine goesL_ (some 47) rfl rfl Try.func25 (by kernel_rfl) rfl #[.slice A0 l0.length c0, .agg #[.int .i64 a2_0, .int .i64 a2_1]] rfl b3_ ?_; (with_reducible refine (forecourtref09_Highest.calls kj3 _ _ l0 a2_0 a2_1 t466 t469 _ ?side1 ?side2 A13.out).mono ?_); (case side1 => repeat (first | exact (Kd.C_below HR0.out HB.out) | (with_reducible refine Kd.C_alloc ?_ _) | (with_reducible refine Kd.C_drewN ?_ _) | (with_reducible refine Kd.C_drew ?_))); (case side2 => exact HC0.out); rintro e w48 ⟨v467, rfl, ho0, hb⟩; refine ⟨_, rfl, ?_⟩; have HO468 := Aside0.mk (Kd.R_lower (Kd.R_new' ho0 (Kd.R_lt b20_)) (below_size b1_)); replace HO464 := Aside0.mk (Kd.R_elder' b20_ (Kd.R_base ho0) hb); replace BK456 := bk_ BK456 hb; replace HB := hB_ HB hb; (try clear hb); obtain ⟨Ao49, co49, eo49⟩ := Kd.R_slice HO464.out; subst eo49; obtain ⟨Ao50, co50, eo50⟩ := Kd.R_slice HO468.out; subst eo50) | (go_at_call 26; (with_reducible refine (forecourtlaw09_prices.calls kj3 _ _ t462 _ _ t466 false _ ?side1 ?side2 ?side3 ?side4 A16.out).mono ?_); (case side1 => repeat (first | exact (Kd.R_reads' HO464.out).2.2 | (with_reducible refine Kd.C_alloc ?_ _) | (with_reducible refine Kd.C_drewN ?_ _) | (with_reducible refine Kd.C_drew ?_))); (case side2 => exact (Kd.R_reads' HO464.out).2.1); (case side3 => repeat (first | exact (Kd.R_reads' HO468.out).2.2 | (with_reducible refine Kd.C_alloc ?_ _) | (with_reducible refine Kd.C_drewN ?_ _) | (with_reducible refine Kd.C_drew ?_))); (case side4 => exact (Kd.R_reads' HO468.out).2.1); rintro e w' ⟨rfl, ⟨nd, rfl⟩⟩))
    go_ret
    exact ⟨b4_, b1_⟩
  subst c17
  have H1 : (if t465 = t469 then ((forecourtlaw09_Works.f).bind fun t471 => (some t471)) else (some false)) = some r := by rw [if_pos rfl] at H; exact H
  clear H
  have H := H1
  clear H1
  by_cases c18 : t465 = t469
  rotate_left
  · rw [if_neg c18] at H
    have c18b0 : (t465 == t469) = false := beq_eq_false_iff_ne.mpr c18
    have c18b1 : (t465 != t469) = true := bne_iff_ne.mpr c18
    obtain rfl := Option.some.inj H
    obtain ⟨hcz31_0, hcz31_1, hfz31_0, hfz31_1⟩ := cz2_ BK456.out
    go_wp2_with (first | ((with_reducible refine gate_callee (f := 22) rfl ?_); refine goesL_ (some 28) rfl rfl Try.func22 (by kernel_rfl) rfl #[.slice A0 l0.length c0, .slice A1 l1.length c1, .agg #[.int .i64 a2_0, .int .i64 a2_1]] rfl b3_ ?_; (with_reducible refine (pole_Cheat.calls _ _ l0 _ _ l1 a2_0 a2_1 t458 t459 _ ?side1 ?side2 ?side3 ?side4 A10.out).mono ?_); (case side1 => repeat (first | exact (Kd.C_below HR0.out HB.out) | (with_reducible refine Kd.C_alloc ?_ _) | (with_reducible refine Kd.C_drewN ?_ _) | (with_reducible refine Kd.C_drew ?_))); (case side2 => exact HC0.out); (case side3 => repeat (first | exact (Kd.C_below HR1.out HB.out) | (with_reducible refine Kd.C_alloc ?_ _) | (with_reducible refine Kd.C_drewN ?_ _) | (with_reducible refine Kd.C_drew ?_))); (case side4 => exact HC1.out); rintro e w32 ⟨rfl, hb⟩; refine ⟨_, rfl, ?_⟩; replace BK456 := bk_ BK456 hb; replace HB := hB_ HB hb; (try clear hb); obtain ⟨hcz33_0, hcz33_1, hfz33_0, hfz33_1⟩ := cz2_ BK456.out) | ((with_reducible refine gate_callee (f := 23) rfl ?_); refine goesL_ (some 35) rfl rfl Try.func23 (by kernel_rfl) rfl #[.slice A0 l0.length c0, .slice A1 l1.length c1, .agg #[.int .i64 a2_0, .int .i64 a2_1]] rfl b3_ ?_; (with_reducible refine (forecourtref09_Cheat.calls kj3 _ _ l0 _ _ l1 a2_0 a2_1 t460 t461 _ ?side1 ?side2 ?side3 ?side4 A11.out).mono ?_); (case side1 => repeat (first | exact (Kd.C_below HR0.out HB.out) | (with_reducible refine Kd.C_alloc ?_ _) | (with_reducible refine Kd.C_drewN ?_ _) | (with_reducible refine Kd.C_drew ?_))); (case side2 => exact HC0.out); (case side3 => repeat (first | exact (Kd.C_below HR1.out HB.out) | (with_reducible refine Kd.C_alloc ?_ _) | (with_reducible refine Kd.C_drewN ?_ _) | (with_reducible refine Kd.C_drew ?_))); (case side4 => exact HC1.out); rintro e w34 ⟨rfl, hb⟩; refine ⟨_, rfl, ?_⟩; replace BK456 := bk_ BK456 hb; replace HB := hB_ HB hb; (try clear hb); obtain ⟨hcz35_0, hcz35_1, hfz35_0, hfz35_1⟩ := cz2_ BK456.out) | ((with_reducible refine gate_callee (f := 24) rfl ?_); refine goesL_ (some 41) rfl rfl Try.func24 (by kernel_rfl) rfl #[.slice A0 l0.length c0, .agg #[.int .i64 a2_0, .int .i64 a2_1]] rfl b3_ ?_; (with_reducible refine (pole_Highest.calls _ _ l0 a2_0 a2_1 t462 t465 _ ?side1 ?side2 A12.out).mono ?_); (case side1 => repeat (first | exact (Kd.C_below HR0.out HB.out) | (with_reducible refine Kd.C_alloc ?_ _) | (with_reducible refine Kd.C_drewN ?_ _) | (with_reducible refine Kd.C_drew ?_))); (case side2 => exact HC0.out); rintro e w36 ⟨v463, rfl, ho0, hb⟩; refine ⟨_, rfl, ?_⟩; have HO464 := Aside0.mk (Kd.R_lower ho0 (below_size b1_)); replace BK456 := bk_ BK456 hb; replace HB := hB_ HB hb; (try clear hb); obtain ⟨hcz37_0, hcz37_1, hfz37_0, hfz37_1⟩ := cz2_ BK456.out) | ((with_reducible refine gate_callee (f := 25) rfl ?_); refine goesL_ (some 47) rfl rfl Try.func25 (by kernel_rfl) rfl #[.slice A0 l0.length c0, .agg #[.int .i64 a2_0, .int .i64 a2_1]] rfl b3_ ?_; (with_reducible refine (forecourtref09_Highest.calls kj3 _ _ l0 a2_0 a2_1 t466 t469 _ ?side1 ?side2 A13.out).mono ?_); (case side1 => repeat (first | exact (Kd.C_below HR0.out HB.out) | (with_reducible refine Kd.C_alloc ?_ _) | (with_reducible refine Kd.C_drewN ?_ _) | (with_reducible refine Kd.C_drew ?_))); (case side2 => exact HC0.out); rintro e w38 ⟨v467, rfl, ho0, hb⟩; refine ⟨_, rfl, ?_⟩; have HO468 := Aside0.mk (Kd.R_lower (Kd.R_new' ho0 (Kd.R_lt b20_)) (below_size b1_)); replace HO464 := Aside0.mk (Kd.R_elder' b20_ (Kd.R_base ho0) hb); replace BK456 := bk_ BK456 hb; replace HB := hB_ HB hb; (try clear hb); obtain ⟨Ao39, co39, eo39⟩ := Kd.R_slice HO464.out; subst eo39; obtain ⟨Ao40, co40, eo40⟩ := Kd.R_slice HO468.out; subst eo40) | (go_at_call 26; (with_reducible refine (forecourtlaw09_prices.calls kj3 _ _ t462 _ _ t466 true _ ?side1 ?side2 ?side3 ?side4 A16.out).mono ?_); (case side1 => repeat (first | exact (Kd.R_reads' HO464.out).2.2 | (with_reducible refine Kd.C_alloc ?_ _) | (with_reducible refine Kd.C_drewN ?_ _) | (with_reducible refine Kd.C_drew ?_))); (case side2 => exact (Kd.R_reads' HO464.out).2.1); (case side3 => repeat (first | exact (Kd.R_reads' HO468.out).2.2 | (with_reducible refine Kd.C_alloc ?_ _) | (with_reducible refine Kd.C_drewN ?_ _) | (with_reducible refine Kd.C_drew ?_))); (case side4 => exact (Kd.R_reads' HO468.out).2.1); rintro e w' ⟨rfl, ⟨nd, rfl⟩⟩))
    go_ret
    exact ⟨b4_, b1_⟩
  rw [if_pos c18] at H
  have c18b0 : (t465 == t469) = true := beq_iff_eq.mpr c18
  have c18b1 : (t465 != t469) = false := bne_eq_false_iff_eq.mpr c18
  clear c18
  replace H := Option.bind_eq_some_iff.mp H
  obtain ⟨t471, A190, H⟩ := H
  replace H : (some t471) = some r := H
  have A19 := Aside0.mk A190
  clear A190
  obtain rfl := Option.some.inj H
  obtain ⟨hcz20_0, hcz20_1, hfz20_0, hfz20_1⟩ := cz2_ BK456.out
  go_wp2_with (first | ((with_reducible refine gate_callee (f := 22) rfl ?_); refine goesL_ (some 28) rfl rfl Try.func22 (by kernel_rfl) rfl #[.slice A0 l0.length c0, .slice A1 l1.length c1, .agg #[.int .i64 a2_0, .int .i64 a2_1]] rfl b3_ ?_; (with_reducible refine (pole_Cheat.calls _ _ l0 _ _ l1 a2_0 a2_1 t458 t459 _ ?side1 ?side2 ?side3 ?side4 A10.out).mono ?_); (case side1 => repeat (first | exact (Kd.C_below HR0.out HB.out) | (with_reducible refine Kd.C_alloc ?_ _) | (with_reducible refine Kd.C_drewN ?_ _) | (with_reducible refine Kd.C_drew ?_))); (case side2 => exact HC0.out); (case side3 => repeat (first | exact (Kd.C_below HR1.out HB.out) | (with_reducible refine Kd.C_alloc ?_ _) | (with_reducible refine Kd.C_drewN ?_ _) | (with_reducible refine Kd.C_drew ?_))); (case side4 => exact HC1.out); rintro e w21 ⟨rfl, hb⟩; refine ⟨_, rfl, ?_⟩; replace BK456 := bk_ BK456 hb; replace HB := hB_ HB hb; (try clear hb); obtain ⟨hcz22_0, hcz22_1, hfz22_0, hfz22_1⟩ := cz2_ BK456.out) | ((with_reducible refine gate_callee (f := 23) rfl ?_); refine goesL_ (some 35) rfl rfl Try.func23 (by kernel_rfl) rfl #[.slice A0 l0.length c0, .slice A1 l1.length c1, .agg #[.int .i64 a2_0, .int .i64 a2_1]] rfl b3_ ?_; (with_reducible refine (forecourtref09_Cheat.calls kj3 _ _ l0 _ _ l1 a2_0 a2_1 t460 t461 _ ?side1 ?side2 ?side3 ?side4 A11.out).mono ?_); (case side1 => repeat (first | exact (Kd.C_below HR0.out HB.out) | (with_reducible refine Kd.C_alloc ?_ _) | (with_reducible refine Kd.C_drewN ?_ _) | (with_reducible refine Kd.C_drew ?_))); (case side2 => exact HC0.out); (case side3 => repeat (first | exact (Kd.C_below HR1.out HB.out) | (with_reducible refine Kd.C_alloc ?_ _) | (with_reducible refine Kd.C_drewN ?_ _) | (with_reducible refine Kd.C_drew ?_))); (case side4 => exact HC1.out); rintro e w23 ⟨rfl, hb⟩; refine ⟨_, rfl, ?_⟩; replace BK456 := bk_ BK456 hb; replace HB := hB_ HB hb; (try clear hb); obtain ⟨hcz24_0, hcz24_1, hfz24_0, hfz24_1⟩ := cz2_ BK456.out) | ((with_reducible refine gate_callee (f := 24) rfl ?_); refine goesL_ (some 41) rfl rfl Try.func24 (by kernel_rfl) rfl #[.slice A0 l0.length c0, .agg #[.int .i64 a2_0, .int .i64 a2_1]] rfl b3_ ?_; (with_reducible refine (pole_Highest.calls _ _ l0 a2_0 a2_1 t462 t465 _ ?side1 ?side2 A12.out).mono ?_); (case side1 => repeat (first | exact (Kd.C_below HR0.out HB.out) | (with_reducible refine Kd.C_alloc ?_ _) | (with_reducible refine Kd.C_drewN ?_ _) | (with_reducible refine Kd.C_drew ?_))); (case side2 => exact HC0.out); rintro e w25 ⟨v463, rfl, ho0, hb⟩; refine ⟨_, rfl, ?_⟩; have HO464 := Aside0.mk (Kd.R_lower ho0 (below_size b1_)); replace BK456 := bk_ BK456 hb; replace HB := hB_ HB hb; (try clear hb); obtain ⟨hcz26_0, hcz26_1, hfz26_0, hfz26_1⟩ := cz2_ BK456.out) | ((with_reducible refine gate_callee (f := 25) rfl ?_); refine goesL_ (some 47) rfl rfl Try.func25 (by kernel_rfl) rfl #[.slice A0 l0.length c0, .agg #[.int .i64 a2_0, .int .i64 a2_1]] rfl b3_ ?_; (with_reducible refine (forecourtref09_Highest.calls kj3 _ _ l0 a2_0 a2_1 t466 t469 _ ?side1 ?side2 A13.out).mono ?_); (case side1 => repeat (first | exact (Kd.C_below HR0.out HB.out) | (with_reducible refine Kd.C_alloc ?_ _) | (with_reducible refine Kd.C_drewN ?_ _) | (with_reducible refine Kd.C_drew ?_))); (case side2 => exact HC0.out); rintro e w27 ⟨v467, rfl, ho0, hb⟩; refine ⟨_, rfl, ?_⟩; have HO468 := Aside0.mk (Kd.R_lower (Kd.R_new' ho0 (Kd.R_lt b20_)) (below_size b1_)); replace HO464 := Aside0.mk (Kd.R_elder' b20_ (Kd.R_base ho0) hb); replace BK456 := bk_ BK456 hb; replace HB := hB_ HB hb; (try clear hb); obtain ⟨Ao28, co28, eo28⟩ := Kd.R_slice HO464.out; subst eo28; obtain ⟨Ao29, co29, eo29⟩ := Kd.R_slice HO468.out; subst eo29) | (go_at_call 26; (with_reducible refine (forecourtlaw09_prices.calls kj3 _ _ t462 _ _ t466 true _ ?side1 ?side2 ?side3 ?side4 A16.out).mono ?_); (case side1 => repeat (first | exact (Kd.R_reads' HO464.out).2.2 | (with_reducible refine Kd.C_alloc ?_ _) | (with_reducible refine Kd.C_drewN ?_ _) | (with_reducible refine Kd.C_drew ?_))); (case side2 => exact (Kd.R_reads' HO464.out).2.1); (case side3 => repeat (first | exact (Kd.R_reads' HO468.out).2.2 | (with_reducible refine Kd.C_alloc ?_ _) | (with_reducible refine Kd.C_drewN ?_ _) | (with_reducible refine Kd.C_drew ?_))); (case side4 => exact (Kd.R_reads' HO468.out).2.1); rintro e w' ⟨rfl, ⟨nd, rfl⟩⟩) | (go_at_call 15; (with_reducible refine (forecourtlaw09_Works.calls  t471 _ A19.out).mono ?_); rintro e w30 ⟨rfl, hb⟩; replace HO464 := Aside0.mk (Kd.R_below b20_ hb); replace HO468 := Aside0.mk (Kd.R_below (by (with_reducible repeat (first | apply Kd.R_alloc | apply Kd.R_drewN | apply Kd.R_drew)); exact HO468.out) hb); replace BK456 := bk_ BK456 hb; replace HB := hB_ HB hb; (try clear hb)))
  go_ret
  exact ⟨b4_, b1_⟩

end Go.Proofs.Ytcgdbjojjpoegaa.P

/- The plain law of PoleCheats: the printed function answers yes. -/
namespace Go.Proofs.Ytcgdbjojjpoegaa.P
open Go.RowKit
theorem poleCheats_j0 (l p : List S54) (a b : Int) (x : Bool) (k : Nat) (hk : 800000 ≤ k) : forecourtlaw09_PoleCheats.j0 (k + 1) l p x a b = some true := by
  rw [forecourtlaw09_PoleCheats.j0]
  unfold forecourtlaw09_Works.f
  obtain ⟨v, h1, h2⟩ := cheat_same l p a b k hk
  obtain ⟨u, h3, h4⟩ := high_same l a b k hk
  have h5 := high_len h3
  rw [h1, h2, h3, h4]
  simp only [Option.bind_some]
  rw [prices_refl u.1 k (by omega) (by omega)]
  split
  · rfl
  · simp
theorem Pure.PoleCheats (l p : List S54) (a b : Int) (_ : ∀ x ∈ l, I64 x.f0 ∧ I64 x.f1) (_ : ∀ x ∈ p, I64 x.f0 ∧ I64 x.f1) (_ : I64 a) (_ : I64 b) : ∃ k, forecourtlaw09_PoleCheats.f k l p a b = some true := by
  refine ⟨800000 + 1, ?_⟩
  unfold forecourtlaw09_PoleCheats.f
  split
  · exact poleCheats_j0 l p a b _ _ (Nat.le_refl _)
  · exact poleCheats_j0 l p a b _ _ (Nat.le_refl _)
end Go.Proofs.Ytcgdbjojjpoegaa.P

