/- Texts of this claim, joined: T13, Pf61, Pf23, Pf25, T14, T15, T16, Pf35, Pf7, PurePoleFair. -/
import Derived.Test.YtcgdbjojjpoegaaGc6
namespace Go.Proofs.Ytcgdbjojjpoegaa.P
open Go.RowKit Go.Proofs.YtcgdbjojjpoegaaW.PrintWords Go.Proofs.YtcgdbjojjpoegaaW.PrintLast Go.Proofs.YtcgdbjojjpoegaaW.PrintMore
set_option linter.unusedVariables false
set_option linter.unusedSimpArgs false

theorem withinB_1 {lo hi x : Int} : withinB lo hi [x] = true ↔ lo ≤ x ∧ x ≤ hi := by
  rw [← withinB_eq]
  simp
/-- Compact of a sorted list is strictly increasing, and has the same elements. -/
theorem compact_up (zs : List Int) (h : zs.Pairwise (· ≤ ·)) : (Lib.compact zs).Pairwise (· < ·) ∧ ∀ x, x ∈ Lib.compact zs ↔ x ∈ zs := by
  have hs : ∀ i j, i < j → j < zs.length → zs.toArray[i]! ≤ zs.toArray[j]! := by
    intro i j hij hj
    have h1 := List.pairwise_iff_getElem.1 h i j (by omega) hj hij
    simpa [getElem!_pos, hj, show i < zs.length by omega] using h1
  have key : ∀ m, m ≤ zs.length → (Lib.compactUpTo zs.toArray m).Pairwise (· < ·) ∧ ∀ x, x ∈ Lib.compactUpTo zs.toArray m ↔ ∃ j, j < m ∧ zs.toArray[j]! = x := by
    intro m
    induction m with
    | zero => intro _; exact ⟨by simp [Lib.compactUpTo], fun x => by simp [Lib.compactUpTo]⟩
    | succ m ih =>
      intro hm
      obtain ⟨h1, h2⟩ := ih (by omega)
      rw [Lib.compactUpTo_succ]
      by_cases hk : Lib.keeps zs.toArray m = true
      · rw [if_pos hk]
        refine ⟨List.pairwise_append.2 ⟨h1, List.pairwise_singleton _ _, fun a ha b hb => ?_⟩, fun x => ?_⟩
        · rw [List.mem_singleton] at hb
          subst hb
          obtain ⟨j, hj, rfl⟩ := (h2 a).1 ha
          have h3 : m ≠ 0 := by omega
          have h4 : zs.toArray[m]! ≠ zs.toArray[m - 1]! := by
            have := of_decide_eq_true hk
            rcases this with h5 | h5
            · exact absurd h5 h3
            · exact h5
          have h5 : zs.toArray[j]! ≤ zs.toArray[m - 1]! := by
            rcases Nat.lt_or_ge j (m - 1) with h6 | h6
            · exact hs j (m - 1) h6 (by omega)
            · have : j = m - 1 := by omega
              rw [this]
              exact Int.le_refl _
          have h6 := hs (m - 1) m (by omega) (by omega)
          omega
        · rw [List.mem_append, h2, List.mem_singleton]
          constructor
          · rintro (⟨j, hj, e⟩ | e)
            · exact ⟨j, by omega, e⟩
            · exact ⟨m, by omega, e.symm⟩
          · rintro ⟨j, hj, e⟩
            rcases Nat.lt_or_ge j m with h6 | h6
            · exact .inl ⟨j, h6, e⟩
            · have : j = m := by omega
              subst this
              exact .inr e.symm
      · rw [if_neg hk, List.append_nil]
        refine ⟨h1, fun x => ?_⟩
        rw [h2]
        constructor
        · rintro ⟨j, hj, e⟩
          exact ⟨j, by omega, e⟩
        · rintro ⟨j, hj, e⟩
          rcases Nat.lt_or_ge j m with h6 | h6
          · exact ⟨j, h6, e⟩
          · have : j = m := by omega
            subst this
            have h7 : ¬ (j = 0 ∨ zs.toArray[j]! ≠ zs.toArray[j - 1]!) := fun h8 => hk (decide_eq_true h8)
            have h8 : j ≠ 0 := fun h9 => h7 (.inl h9)
            exact ⟨j - 1, by omega, by
              rcases Decidable.em (zs.toArray[j]! = zs.toArray[j - 1]!) with h9 | h9
              · exact h9.symm.trans e
              · exact absurd (.inr h9) h7⟩
  obtain ⟨h1, h2⟩ := key zs.length (Nat.le_refl _)
  refine ⟨h1, fun x => (h2 x).trans ?_⟩
  constructor
  · rintro ⟨j, hj, e⟩
    rw [← e]
    simp [getElem!_pos, hj]
  · intro hx
    obtain ⟨j, hj, e⟩ := List.mem_iff_getElem.1 hx
    exact ⟨j, hj, by simpa [getElem!_pos, hj] using e⟩
/-- Strictly increasing lists with the same elements are equal. -/
theorem up_eq : ∀ (a b : List Int), a.Pairwise (· < ·) → b.Pairwise (· < ·) → (∀ x, x ∈ a ↔ x ∈ b) → a = b
  | [], [], _, _, _ => rfl
  | [], y :: b, _, _, h => by have := (h y).2 (by simp); simp at this
  | x :: a, [], _, _, h => by have := (h x).1 (by simp); simp at this
  | x :: a, y :: b, h1, h2, h => by
    rw [List.pairwise_cons] at h1 h2
    have hxy : x = y := by
      have h3 := (h x).1 (by simp)
      have h4 := (h y).2 (by simp)
      rw [List.mem_cons] at h3 h4
      rcases h3 with h3 | h3
      · exact h3
      · rcases h4 with h4 | h4
        · exact h4.symm
        · have := h1.1 y h4
          have := h2.1 x h3
          omega
    subst hxy
    rw [up_eq a b h1.2 h2.2 fun z => ?_]
    constructor
    · intro hz
      have := (h z).1 (by simp [hz])
      rw [List.mem_cons] at this
      rcases this with e | e
      · have := h1.1 z hz; omega
      · exact e
    · intro hz
      have := (h z).2 (by simp [hz])
      rw [List.mem_cons] at this
      rcases this with e | e
      · have := h2.1 z hz; omega
      · exact e
theorem sort_up (l : List Int) : (l.mergeSort fun x y => decide (x ≤ y)).Pairwise (· ≤ ·) := by
  have := List.pairwise_mergeSort (le := fun x y : Int => decide (x ≤ y)) (fun a b c => by simp only [decide_eq_true_eq]; omega) (fun a b => by simp only [Bool.or_eq_true, decide_eq_true_eq]; omega) l
  exact this.imp fun h => of_decide_eq_true h
theorem changes_up (lo hi : Int) (l : List S54) : (changesL lo hi l).Pairwise (· < ·) := (compact_up _ (sort_up _)).1
theorem changes_mem (lo hi : Int) (l : List S54) (x : Int) : x ∈ changesL lo hi l ↔ x ∈ changesC lo hi l := by
  unfold changesL
  rw [(compact_up _ (sort_up _)).2, List.mem_mergeSort]
/-- clocks that differ as they may -/
structure Clk (lo hi : Int) : Prop where
  a : -100 ≤ lo
  b : lo ≤ hi
  c : hi ≤ 100
theorem clockB_iff {lo hi : Int} : clockB lo hi = true ↔ Clk lo hi := by
  unfold clockB
  simp only [Bool.and_eq_true, decide_eq_true_eq]
  exact ⟨fun h => ⟨h.1.1, h.1.2, h.2⟩, fun h => ⟨⟨h.a, h.b⟩, h.c⟩⟩
theorem Sign.f0 {l : List S54} (hs : Sign l) {i : Nat} (hi : i < l.length) : 0 ≤ (rd_T54 l i).f0 ∧ (rd_T54 l i).f0 ≤ 2000 := by
  refine ⟨?_, hs.max i hi⟩
  have hz := hs.z
  cases i with
  | zero => exact Int.le_of_eq hz.symm
  | succ i =>
    have := hs.lt (Nat.zero_lt_succ i) hi
    rw [show (rd_T54 l ((0 : Nat) : Int)) = rd_T54 l 0 from rfl, hz] at this
    exact Int.le_of_lt this
theorem chg_mem {l : List S54} (hs : Sign l) {lo hi : Int} (hc : Clk lo hi) (x : Int) : x ∈ changesC lo hi l ↔ x = 0 ∨ (1 ≤ x ∧ x ≤ 2000 ∧ ∃ i : Nat, 1 ≤ i ∧ i < l.length ∧ (x = (rd_T54 l i).f0 - hi ∨ x = (rd_T54 l i).f0 - lo)) := by
  unfold changesC
  rw [List.mem_cons, List.mem_flatMap]
  refine or_congr Iff.rfl ?_
  have h1 := hc.a
  have h2 := hc.b
  have h3 := hc.c
  constructor
  · rintro ⟨p, hp, hx⟩
    obtain ⟨n, hn, e⟩ := List.mem_iff_getElem.1 hp
    rw [List.length_drop] at hn
    rw [List.getElem_drop] at e
    have e' : rd_T54 l ((1 + n : Nat) : Int) = p := (rdP l (1 + n) (by omega)).trans e
    have h4 := hs.f0 (i := 1 + n) (by omega)
    rw [e'] at h4
    unfold minsP at hx
    rw [List.mem_filter, withinB_1, wrap_ok _ (by omega) (by omega), wrap_ok _ (by omega) (by omega)] at hx
    simp only [List.mem_cons, List.not_mem_nil, or_false] at hx
    exact ⟨hx.2.1, hx.2.2, 1 + n, by omega, by omega, by rw [e']; exact hx.1⟩
  · rintro ⟨h5, h6, i, h7, h8, h9⟩
    have h4 := hs.f0 (i := i) h8
    refine ⟨rd_T54 l i, ?_, ?_⟩
    · rw [rdP l i h8]
      exact List.mem_iff_getElem.2 ⟨i - 1, by rw [List.length_drop]; omega, by rw [List.getElem_drop]; congr 1; omega⟩
    · unfold minsP
      rw [List.mem_filter, withinB_1, wrap_ok _ (by omega) (by omega), wrap_ok _ (by omega) (by omega)]
      simp only [List.mem_cons, List.not_mem_nil, or_false]
      exact ⟨h9, h5, h6⟩
theorem AtI.step {l : List S54} {t : Int} {j : Nat} (h : AtI l (t - 1) j) (hn : ∀ i : Nat, 1 ≤ i → i < l.length → (rd_T54 l i).f0 ≠ t) : AtI l t j := by
  refine ⟨h.lt, ?_, fun i hi hi' => ?_⟩
  · rcases h.le with h1 | h1
    · exact .inl h1
    · exact .inr (by omega)
  · have h1 := h.gt i hi hi'
    have h2 := hn i (by omega) hi'
    omega
/-- The fair price of a minute at which no change comes is that of the minute before it. -/
theorem fair_step {l : List S54} (hs : Sign l) {lo hi m : Int} (hc : Clk lo hi) (h1 : 1 ≤ m) (h2 : m ≤ 2000) (hm : m ∉ changesC lo hi l) : pole_fair.f l lo hi m = pole_fair.f l lo hi (m - 1) := by
  have ha := hc.a
  have hb := hc.b
  have hcc := hc.c
  rw [chg_mem hs hc] at hm
  have hn : ∀ t, (t = m + lo ∨ t = m + hi) → ∀ i : Nat, 1 ≤ i → i < l.length → (rd_T54 l i).f0 ≠ t := by
    intro t ht i hi1 hi2 e
    refine hm (.inr ⟨h1, h2, i, hi1, hi2, ?_⟩)
    rcases ht with ht | ht
    · exact .inr (by omega)
    · exact .inl (by omega)
  obtain ⟨i, hi1, hi2⟩ := at_ex l (m - 1 + lo) hs.pos hs.le
  obtain ⟨j, hj1, hj2⟩ := at_ex l (m - 1 + hi) hs.pos hs.le
  have hi3 : AtI l (m + lo) i := AtI.step (by rw [show m + lo - 1 = m - 1 + lo by omega]; exact hi1) (hn _ (.inl rfl))
  have hj3 : AtI l (m + hi) j := AtI.step (by rw [show m + hi - 1 = m - 1 + hi by omega]; exact hj1) (hn _ (.inr rfl))
  unfold pole_fair.f
  rw [wrap_ok (m + lo) (by omega) (by omega), wrap_ok (m + hi) (by omega) (by omega), wrap_ok (m - 1 + lo) (by omega) (by omega), wrap_ok (m - 1 + hi) (by omega) (by omega), hi2 100 (by omega), hj2 100 (by omega), pole_at_eq hi3 hs.le 100 (by omega), pole_at_eq hj3 hs.le 100 (by omega)]
/-- the fair price of a minute -/
def fairV (l : List S54) (lo hi m : Int) : Int := (pole_fair.f l lo hi m).getD 0
theorem fairV_some {l : List S54} (hs : Sign l) {lo hi m : Int} (hc : Clk lo hi) (h1 : -10000 ≤ m) (h2 : m ≤ 10000) : pole_fair.f l lo hi m = some (fairV l lo hi m) ∧ FairV l lo hi m (fairV l lo hi m) := by
  obtain ⟨v, h3, h4⟩ := fair_eq hs hc.a hc.b hc.c h1 h2
  have : fairV l lo hi m = v := by unfold fairV; rw [h3]; rfl
  rw [this]
  exact ⟨h3, h4⟩
theorem fairV_step {l : List S54} (hs : Sign l) {lo hi m : Int} (hc : Clk lo hi) (h1 : 1 ≤ m) (h2 : m ≤ 2000) (hm : m ∉ changesC lo hi l) : fairV l lo hi m = fairV l lo hi (m - 1) := by
  unfold fairV
  rw [fair_step hs hc h1 h2 hm]
theorem atV_step {l : List S54} (hs : Sign l) {m : Int} (hm : m ∉ l.map (·.f0)) : atV l m = atV l (m - 1) := by
  obtain ⟨i, hi1, _⟩ := at_ex l (m - 1) hs.pos hs.le
  rw [hi1.val hs.le, AtI.val (AtI.step hi1 ?_) hs.le]
  intro j _ hj e
  exact hm (List.mem_map.2 ⟨_, List.getElem_mem hj, by rw [← rdP l j hj]; exact e⟩)
end Go.Proofs.Ytcgdbjojjpoegaa.P

namespace Go.Proofs.Ytcgdbjojjpoegaa.P
open Go.RowKit Go.Proofs.YtcgdbjojjpoegaaW.PrintWords Go.Proofs.YtcgdbjojjpoegaaW.PrintLast Go.Proofs.YtcgdbjojjpoegaaW.PrintMore
attribute [local go_sem] max2_int min2_int max_two min_two max_three min_three max_four min_four   -- for this text's walks alone
set_option linter.unusedVariables false
set_option linter.unusedSimpArgs false

/-! ### forecourtref09_fair: function 61 -/
mutual
def forecourtref09_fair.l0 : Nat → List (S54) → List Int → Int → Int → Int → Option (List Int)
  | 0, _, _, _, _, _ => none
  | k + 1, x0, x5, x6, x419000, x419001 => if x6 ≤ 2100 then ((forecourtref09_At.f k x0 x6).bind fun t419 => (if x5.length < 17592186044416 then (forecourtref09_fair.l0 k x0 (x5 ++ [t419]) (wrap64 (x6 + 1)) x419000 x419001) else (none))) else (forecourtref09_fair.l1 k x5 ([] : List Int) 0 x419000 x419001)
def forecourtref09_fair.l1 : Nat → List Int → List Int → Int → Int → Int → Option (List Int)
  | 0, _, _, _, _, _ => none
  | k + 1, x5, x7, x8, x419000, x419001 => if x8 ≤ 2000 then (if 0 ≤ (wrap64 ((wrap64 (x8 + x419000)) + 100)) then (if (wrap64 ((wrap64 (x8 + x419000)) + 100)) < (x5.length : Int) then (forecourtref09_fair.l2 k x5 x7 x8 (rd x5 (wrap64 ((wrap64 (x8 + x419000)) + 100))) (wrap64 (x8 + x419000)) x419000 x419001) else (none)) else (none)) else (some x7)
def forecourtref09_fair.l2 : Nat → List Int → List Int → Int → Int → Int → Int → Int → Option (List Int)
  | 0, _, _, _, _, _, _, _ => none
  | k + 1, x5, x7, x8, x9, x10, x419000, x419001 => if x10 ≤ (wrap64 (x8 + x419001)) then (if 0 ≤ (wrap64 (x10 + 100)) then (if (wrap64 (x10 + 100)) < (x5.length : Int) then (forecourtref09_fair.l2 k x5 x7 x8 (mn x9 (rd x5 (wrap64 (x10 + 100)))) (wrap64 (x10 + 1)) x419000 x419001) else (none)) else (none)) else (if x7.length < 17592186044416 then (forecourtref09_fair.l1 k x5 (x7 ++ [x9]) (wrap64 (x8 + 1)) x419000 x419001) else (none))
end
def forecourtref09_fair.f (k : Nat) (l0 : List (S54)) (a1_0 : Int) (a1_1 : Int) : Option (List Int) := forecourtref09_fair.l0 k l0 ([] : List Int) (-100) a1_0 a1_1
end Go.Proofs.Ytcgdbjojjpoegaa.P

namespace Go.Proofs.Ytcgdbjojjpoegaa.P
open Go.RowKit Go.Proofs.YtcgdbjojjpoegaaW.PrintWords Go.Proofs.YtcgdbjojjpoegaaW.PrintLast Go.Proofs.YtcgdbjojjpoegaaW.PrintMore
attribute [local go_sem] max2_int min2_int max_two min_two max_three min_three max_four min_four   -- for this text's walks alone
set_option linter.unusedVariables false
set_option linter.unusedSimpArgs false

/-! ### forecourtref09_Cheat: function 23 -/
def forecourtref09_Cheat.l0 : Nat → List (S54) → List Int → Int → Option (Int × Int)
  | 0, _, _, _ => none
  | k + 1, x1, x8, x9 => if x9 ≤ 2000 then ((forecourtref09_At.f k x1 x9).bind fun t437 => (if 0 ≤ x9 then (if x9 < (x8.length : Int) then (if t437 > (rd x8 x9) then (some (x9, 0)) else (forecourtref09_Cheat.l0 k x1 x8 (wrap64 (x9 + 1)))) else (none)) else (none))) else (some (0, 5))
def forecourtref09_Cheat.f (k : Nat) (l0 : List (S54)) (l1 : List (S54)) (a2_0 : Int) (a2_1 : Int) : Option (Int × Int) := (forecourtref09_CheckSign.f k l0).bind fun t429 => (if t429 = 0 then ((forecourtref09_CheckSign.f k l1).bind fun t431 => (if t431 = 0 then ((forecourtref09_IsClocks.f a2_0 a2_1).bind fun t433 => (if t433 = true then ((forecourtref09_fair.f k l0 a2_0 a2_1).bind fun t434 => (forecourtref09_Cheat.l0 k l1 t434 0)) else (some (0, 2)))) else ((forecourtref09_CheckSign.f k l1).bind fun t432 => (some (0, t432))))) else ((forecourtref09_CheckSign.f k l0).bind fun t430 => (some (0, t430))))
end Go.Proofs.Ytcgdbjojjpoegaa.P

namespace Go.Proofs.Ytcgdbjojjpoegaa.P
open Go.RowKit Go.Proofs.YtcgdbjojjpoegaaW.PrintWords Go.Proofs.YtcgdbjojjpoegaaW.PrintLast Go.Proofs.YtcgdbjojjpoegaaW.PrintMore
attribute [local go_sem] max2_int min2_int max_two min_two max_three min_three max_four min_four   -- for this text's walks alone
set_option linter.unusedVariables false
set_option linter.unusedSimpArgs false

/-! ### forecourtref09_Highest: function 25 -/
def forecourtref09_Highest.l0 : Nat → List Int → List (S54) → Int → Option ((List (S54)) × Int)
  | 0, _, _, _ => none
  | k + 1, x6, x7, x8 => if x8 ≤ 2000 then (if x8 = 0 then (if 0 ≤ x8 then (if x8 < (x6.length : Int) then (if x7.length < 8796093022208 then (forecourtref09_Highest.l0 k x6 (x7 ++ [(⟨x8, rd x6 x8⟩ : S54)]) (wrap64 (x8 + 1))) else (none)) else (none)) else (none)) else (if 0 ≤ x8 then (if x8 < (x6.length : Int) then (if 0 ≤ (wrap64 (x8 - 1)) then (if (wrap64 (x8 - 1)) < (x6.length : Int) then (if (rd x6 x8) = (rd x6 (wrap64 (x8 - 1))) then (forecourtref09_Highest.l0 k x6 x7 (wrap64 (x8 + 1))) else (if x7.length < 8796093022208 then (forecourtref09_Highest.l0 k x6 (x7 ++ [(⟨x8, rd x6 x8⟩ : S54)]) (wrap64 (x8 + 1))) else (none))) else (none)) else (none)) else (none)) else (none))) else (some (x7, 0))
def forecourtref09_Highest.f (k : Nat) (l0 : List (S54)) (a1_0 : Int) (a1_1 : Int) : Option ((List (S54)) × Int) := (forecourtref09_CheckSign.f k l0).bind fun t440 => (if t440 = 0 then ((forecourtref09_IsClocks.f a1_0 a1_1).bind fun t442 => (if t442 = true then ((forecourtref09_fair.f k l0 a1_0 a1_1).bind fun t443 => (forecourtref09_Highest.l0 k t443 ([] : List (S54)) 0)) else (some (([] : List (S54)), 2)))) else ((forecourtref09_CheckSign.f k l0).bind fun t441 => (some (([] : List (S54)), t441))))
end Go.Proofs.Ytcgdbjojjpoegaa.P

namespace Go.Proofs.Ytcgdbjojjpoegaa.P
open Go.RowKit Go.Proofs.YtcgdbjojjpoegaaW.PrintWords Go.Proofs.YtcgdbjojjpoegaaW.PrintLast Go.Proofs.YtcgdbjojjpoegaaW.PrintMore
set_option linter.unusedVariables false
set_option linter.unusedSimpArgs false

/-- a sign cheats at a minute -/
def Cheats (l pump : List S54) (lo hi m : Int) : Prop := fairV l lo hi m < atV pump m
instance (l pump : List S54) (lo hi m : Int) : Decidable (Cheats l pump lo hi m) := inferInstanceAs (Decidable (_ < _))
/-- what Cheat answers for valid signs and clocks -/
def CheatSpec (l pump : List S54) (lo hi : Int) (v : Int × Int) : Prop :=
  (v = (0, 5) ∧ ∀ m, 0 ≤ m → m ≤ 2000 → ¬ Cheats l pump lo hi m) ∨ (∃ m, v = (m, 0) ∧ 0 ≤ m ∧ m ≤ 2000 ∧ Cheats l pump lo hi m ∧ ∀ m', 0 ≤ m' → m' < m → ¬ Cheats l pump lo hi m')
theorem CheatSpec.uniq {l pump : List S54} {lo hi : Int} {u v : Int × Int} (h : CheatSpec l pump lo hi u) (h' : CheatSpec l pump lo hi v) : u = v := by
  rcases h with ⟨rfl, h1⟩ | ⟨m, rfl, h1, h2, h3, h4⟩ <;> rcases h' with ⟨rfl, g1⟩ | ⟨n, rfl, g1, g2, g3, g4⟩
  · rfl
  · exact absurd g3 (h1 n g1 g2)
  · exact absurd h3 (g1 m h1 h2)
  · rcases Int.lt_trichotomy m n with h5 | h5 | h5
    · exact absurd h3 (g4 m h1 h5)
    · rw [h5]
    · exact absurd g3 (h4 n g1 h5)
theorem cheatO_eq {l pump : List S54} (hs : Sign l) (hp : Sign pump) {lo hi m : Int} (hc : Clk lo hi) (h1 : 0 ≤ m) (h2 : m ≤ 2000) : cheatO l pump lo hi m = some (decide (Cheats l pump lo hi m)) := by
  obtain ⟨j, hj, hj2⟩ := at_ex pump m hp.pos hp.le
  unfold cheatO
  rw [hj2 100 (by omega), Option.bind_some, if_pos ⟨by omega, by have := hj.lt; omega⟩, (fairV_some hs hc (by omega) (by omega)).1, Option.bind_some, ← hj.val hp.le]
  rfl
/-- the minutes that Cheat asks -/
theorem minutes_mem {l pump : List S54} (hs : Sign l) {lo hi : Int} (hc : Clk lo hi) (x : Int) : x ∈ minutesL lo hi l pump ↔ x ∈ changesC lo hi l ∨ x ∈ pump.map (·.f0) := by
  unfold minutesL
  rw [List.mem_mergeSort, List.mem_append, changes_mem]
theorem sign_mins {l : List S54} (hs : Sign l) {x : Int} (h : x ∈ l.map (·.f0)) : 0 ≤ x ∧ x ≤ 2000 := by
  obtain ⟨p, hp, rfl⟩ := List.mem_map.1 h
  obtain ⟨i, hi, rfl⟩ := List.mem_iff_getElem.1 hp
  have := hs.f0 hi
  rwa [rdP l i hi] at this
theorem minutes_rng {l pump : List S54} (hs : Sign l) (hp : Sign pump) {lo hi : Int} (hc : Clk lo hi) {x : Int} (h : x ∈ minutesL lo hi l pump) : 0 ≤ x ∧ x ≤ 2000 := by
  rcases (minutes_mem hs hc x).1 h with h | h
  · rcases (chg_mem hs hc x).1 h with h | h
    · omega
    · omega
  · exact sign_mins hp h
theorem cheats_step {l pump : List S54} (hs : Sign l) (hp : Sign pump) {lo hi m : Int} (hc : Clk lo hi) (h1 : 1 ≤ m) (h2 : m ≤ 2000) (hm : m ∉ minutesL lo hi l pump) : Cheats l pump lo hi m ↔ Cheats l pump lo hi (m - 1) := by
  rw [minutes_mem hs hc] at hm
  unfold Cheats
  rw [fairV_step hs hc h1 h2 fun h => hm (.inl h), atV_step hp fun h => hm (.inr h)]
/-- the least minute at which it cheats is one of those -/
theorem least_min {l pump : List S54} (hs : Sign l) (hp : Sign pump) {lo hi : Int} (hc : Clk lo hi) : ∀ (n : Nat), (n : Int) ≤ 2000 → Cheats l pump lo hi n → ∃ m, m ∈ minutesL lo hi l pump ∧ m ≤ n ∧ Cheats l pump lo hi m
  | 0 => fun _ h => ⟨0, (minutes_mem hs hc 0).2 (.inl ((chg_mem hs hc 0).2 (.inl rfl))), Int.le_refl _, h⟩
  | n + 1 => fun hn h => by
    by_cases hm : ((n + 1 : Nat) : Int) ∈ minutesL lo hi l pump
    · exact ⟨_, hm, Int.le_refl _, h⟩
    · have h1 := (cheats_step hs hp hc (by omega) hn hm).1 h
      rw [show ((n + 1 : Nat) : Int) - 1 = (n : Int) by omega] at h1
      obtain ⟨m, a, b, c⟩ := least_min hs hp hc n (by omega) h1
      exact ⟨m, a, by omega, c⟩
theorem cheatR_spec {l pump : List S54} (hs : Sign l) (hp : Sign pump) {lo hi : Int} (hc : Clk lo hi) : CheatSpec l pump lo hi (cheatR l pump lo hi (minutesL lo hi l pump)) := by
  have hP : ∀ m, m ∈ minutesL lo hi l pump → (cheatP l pump lo hi m = true ↔ Cheats l pump lo hi m) := by
    intro m hm
    have := minutes_rng hs hp hc hm
    unfold cheatP
    rw [cheatO_eq hs hp hc this.1 this.2]
    simp
  have hsort : (minutesL lo hi l pump).Pairwise (· ≤ ·) := sort_up _
  unfold cheatR idxP
  cases hf : (minutesL lo hi l pump).findIdx? (cheatP l pump lo hi) with
  | none =>
    rw [List.findIdx?_eq_none_iff] at hf
    left
    refine ⟨by simp, fun m h1 h2 hm => ?_⟩
    obtain ⟨n, rfl⟩ : ∃ n : Nat, m = n := ⟨m.toNat, by omega⟩
    obtain ⟨m', a, b, c⟩ := least_min hs hp hc n h2 hm
    have := hf m' a
    rw [(hP m' a).2 c] at this
    cases this
  | some i =>
    obtain ⟨hil, h1, h2⟩ := List.findIdx?_eq_some_iff_getElem.1 hf
    right
    have hmem := List.getElem_mem hil
    have hr := minutes_rng hs hp hc hmem
    refine ⟨(minutesL lo hi l pump)[i], ?_, hr.1, hr.2, (hP _ hmem).1 h1, fun m' h3 h4 h5 => ?_⟩
    · simp only
      rw [if_neg (by omega), rd_nat _ i hil]
    · obtain ⟨n, rfl⟩ : ∃ n : Nat, m' = n := ⟨m'.toNat, by omega⟩
      obtain ⟨m, a, b, c⟩ := least_min hs hp hc n (by omega) h5
      obtain ⟨j, hj, rfl⟩ := List.mem_iff_getElem.1 a
      rcases Nat.lt_or_ge j i with h6 | h6
      · have := h2 j h6
        rw [(hP _ a).2 c] at this
        simp at this
      · have h7 : (minutesL lo hi l pump)[i] ≤ (minutesL lo hi l pump)[j] := by
          rcases Nat.lt_or_ge i j with h8 | h8
          · exact List.pairwise_iff_getElem.1 hsort i j hil hj h8
          · have : i = j := by omega
            subst this
            exact Int.le_refl _
        omega
theorem cheat_all {l pump : List S54} (hs : Sign l) (hp : Sign pump) {lo hi : Int} (hc : Clk lo hi) : (minutesL lo hi l pump).all (fun m => (cheatO l pump lo hi m).isSome) = true := by
  rw [List.all_eq_true]
  intro m hm
  have := minutes_rng hs hp hc hm
  rw [cheatO_eq hs hp hc this.1 this.2]
  rfl
theorem pole_Cheat_eq {l pump : List S54} (hs : signE l = 0) (hp : signE pump = 0) {lo hi : Int} (hc : Clk lo hi) : ∃ v, pole_Cheat.f l pump lo hi = some v ∧ CheatSpec l pump lo hi v := by
  unfold pole_Cheat.f
  rw [if_pos hs, if_pos hp, checkClocks_eq, if_pos hs, if_pos (clockB_iff.2 hc), Option.bind_some, if_pos rfl, if_pos (cheat_all (signE_sign hs) (signE_sign hp) hc)]
  exact ⟨_, rfl, cheatR_spec (signE_sign hs) (signE_sign hp) hc⟩
end Go.Proofs.Ytcgdbjojjpoegaa.P

namespace Go.Proofs.Ytcgdbjojjpoegaa.P
open Go.RowKit Go.Proofs.YtcgdbjojjpoegaaW.PrintWords Go.Proofs.YtcgdbjojjpoegaaW.PrintLast Go.Proofs.YtcgdbjojjpoegaaW.PrintMore
set_option linter.unusedVariables false
set_option linter.unusedSimpArgs false

/-- where no change comes the fair price stays -/
theorem fairV_const {l : List S54} (hs : Sign l) {lo hi c : Int} (hc : Clk lo hi) (h0 : 0 ≤ c) : ∀ n : Nat, c + n ≤ 2000 → (∀ t, c < t → t ≤ c + n → t ∉ changesC lo hi l) → fairV l lo hi (c + n) = fairV l lo hi c
  | 0 => fun _ _ => by rw [show c + ((0 : Nat) : Int) = c by omega]
  | n + 1 => fun h1 h2 => by
    have h3 := fairV_step hs hc (m := c + ((n + 1 : Nat) : Int)) (by omega) h1 (h2 _ (by omega) (Int.le_refl _))
    rw [show c + ((n + 1 : Nat) : Int) - 1 = c + (n : Int) by omega] at h3
    rw [h3]
    exact fairV_const hs hc h0 n (by omega) fun t a b => h2 t a (by omega)
/-- the fair price changes at a minute -/
def newB (l : List S54) (lo hi m : Int) : Bool := decide (m = 0) || decide (fairV l lo hi m ≠ fairV l lo hi (m - 1))
def mkP (l : List S54) (lo hi m : Int) : S54 := ⟨m, fairV l lo hi m⟩
def highs (l : List S54) (lo hi : Int) (ms : List Int) : List S54 := (ms.filter (newB l lo hi)).map (mkP l lo hi)
theorem rd_last (out : List S54) (p : S54) : rd_T54 (out ++ [p]) (((out ++ [p]).length : Int) - 1) = p := by
  have h : (((out ++ [p]).length : Int) - 1) = (out.length : Nat) := by simp
  rw [h, rdP _ _ (by simp)]
  simp
theorem chg_rng {l : List S54} (hs : Sign l) {lo hi : Int} (hc : Clk lo hi) {x : Int} (h : x ∈ changesL lo hi l) : 0 ≤ x ∧ x ≤ 2000 := by
  rcases (chg_mem hs hc x).1 ((changes_mem lo hi l x).1 h) with h | h <;> omega
theorem high_go {l : List S54} (hs : Sign l) {lo hi : Int} (hc : Clk lo hi) : ∀ (ms pre : List Int) (c : Int) (out : List S54), changesL lo hi l = pre ++ c :: ms → (∃ o p, out = o ++ [p] ∧ p.f1 = fairV l lo hi c) → highO l lo hi ms out = some (out ++ highs l lo hi ms)
  | [], pre, c, out, _, _ => by simp [highO, highs]
  | m :: ms, pre, c, out, he, ⟨o, p, ho, hp⟩ => by
    have hup := changes_up lo hi l
    rw [he] at hup
    rw [List.pairwise_append, List.pairwise_cons, List.pairwise_cons] at hup
    obtain ⟨_, ⟨hc1, hm1, _⟩, hx⟩ := hup
    have hcm : c < m := hc1 m (by simp)
    have rc := chg_rng hs hc (x := c) (by rw [he]; simp)
    have rm := chg_rng hs hc (x := m) (by rw [he]; simp)
    have hno : ∀ t, c < t → t ≤ c + ((m - 1 - c).toNat : Int) → t ∉ changesC lo hi l := by
      intro t h1 h2 h3
      have h4 := (changes_mem lo hi l t).2 h3
      rw [he, List.mem_append, List.mem_cons, List.mem_cons] at h4
      rcases h4 with h4 | h4 | h4 | h4
      · have := hx t h4 c (by simp); omega
      · omega
      · omega
      · have := hm1 t h4; omega
    have hF : fairV l lo hi (m - 1) = fairV l lo hi c := by
      have := fairV_const hs hc rc.1 (m - 1 - c).toNat (by omega) hno
      rwa [show c + ((m - 1 - c).toNat : Int) = m - 1 by omega] at this
    have hne : out.length ≠ 0 := by rw [ho]; simp
    have hlast : (rd_T54 out ((out.length : Int) - 1)).f1 = fairV l lo hi c := by rw [ho, rd_last, hp]
    rw [highO, (fairV_some hs hc (by omega) (by omega)).1, Option.bind_some]
    have hstep : highStep out ⟨m, fairV l lo hi m⟩ = out ++ (if newB l lo hi m = true then [mkP l lo hi m] else []) := by
      unfold highStep
      rw [hlast]
      by_cases h1 : fairV l lo hi c ≠ fairV l lo hi m
      · have h2 : newB l lo hi m = true := by
          unfold newB
          rw [hF]
          simp [Ne.symm h1]
        rw [if_pos (.inr h1), if_pos h2]
        rfl
      · have h2 : ¬ newB l lo hi m = true := by
          unfold newB
          rw [hF]
          have h3 : fairV l lo hi m = fairV l lo hi c := by
            rcases Decidable.em (fairV l lo hi c = fairV l lo hi m) with h | h
            · exact h.symm
            · exact absurd h h1
          simp [h3]
          omega
        rw [if_neg (by rintro (h | h); exact hne h; exact h1 h), if_neg h2, List.append_nil]
    rw [hstep, high_go hs hc ms (pre ++ [c]) m _ (by rw [he, List.append_assoc]; rfl) ?_]
    · unfold highs
      rw [List.filter_cons]
      by_cases h2 : newB l lo hi m = true
      · rw [if_pos h2, if_pos h2, List.map_cons, List.append_assoc]
        rfl
      · rw [if_neg h2, if_neg h2, List.append_nil]
    · by_cases h2 : newB l lo hi m = true
      · rw [if_pos h2]
        exact ⟨out, _, rfl, rfl⟩
      · rw [if_neg h2, List.append_nil]
        refine ⟨o, p, ho, hp.trans ?_⟩
        unfold newB at h2
        simp only [Bool.or_eq_true, decide_eq_true_eq, not_or, ne_eq, Decidable.not_not] at h2
        rw [h2.2, hF]
theorem changes_head {l : List S54} (hs : Sign l) {lo hi : Int} (hc : Clk lo hi) : ∃ ms, changesL lo hi l = 0 :: ms := by
  have h0 : (0 : Int) ∈ changesL lo hi l := (changes_mem lo hi l 0).2 ((chg_mem hs hc 0).2 (.inl rfl))
  have hup := changes_up lo hi l
  cases he : changesL lo hi l with
  | nil => rw [he] at h0; simp at h0
  | cons c ms =>
    have hr := chg_rng hs hc (x := c) (by rw [he]; simp)
    rw [he] at h0 hup
    rw [List.pairwise_cons] at hup
    rw [List.mem_cons] at h0
    rcases h0 with h0 | h0
    · exact ⟨ms, by rw [h0]⟩
    · have := hup.1 0 h0
      omega
theorem highO_eq {l : List S54} (hs : Sign l) {lo hi : Int} (hc : Clk lo hi) : highO l lo hi (changesL lo hi l) [] = some (highs l lo hi (changesL lo hi l)) := by
  obtain ⟨ms, he⟩ := changes_head hs hc
  rw [he, highO, (fairV_some hs hc (by omega) (by omega)).1, Option.bind_some]
  have h1 : highStep [] ⟨0, fairV l lo hi 0⟩ = [mkP l lo hi 0] := rfl
  rw [h1, high_go hs hc ms [] 0 [mkP l lo hi 0] he ⟨[], _, rfl, rfl⟩]
  unfold highs
  rw [List.filter_cons, if_pos (by rfl), List.map_cons]
  rfl
/-- the minutes from 0 on -/
def mins (n : Nat) : List Int := (List.range n).map fun (j : Nat) => (j : Int)
theorem mins_snoc (n : Nat) : mins (n + 1) = mins n ++ [(n : Int)] := by
  unfold mins
  rw [List.range_succ, List.map_append]
  rfl
theorem mins_mem (n : Nat) (x : Int) : x ∈ mins n ↔ 0 ≤ x ∧ x < n := by
  unfold mins
  rw [List.mem_map]
  constructor
  · rintro ⟨j, hj, rfl⟩
    rw [List.mem_range] at hj
    omega
  · rintro ⟨h1, h2⟩
    exact ⟨x.toNat, by rw [List.mem_range]; omega, by omega⟩
theorem mins_up (n : Nat) : (mins n).Pairwise (· < ·) := by
  induction n with
  | zero => simp [mins]
  | succ n ih =>
    rw [mins_snoc, List.pairwise_append]
    refine ⟨ih, by simp, fun a ha b hb => ?_⟩
    rw [mins_mem] at ha
    rw [List.mem_singleton] at hb
    omega
set_option maxRecDepth 20000 in
theorem highs_mins {l : List S54} (hs : Sign l) {lo hi : Int} (hc : Clk lo hi) : highs l lo hi (changesL lo hi l) = highs l lo hi (mins 2001) := by
  unfold highs
  refine congrArg (List.map (mkP l lo hi)) ?_
  refine up_eq _ _ ((changes_up lo hi l).filter _) ((mins_up 2001).filter _) fun x => ?_
  rw [List.mem_filter, List.mem_filter, mins_mem, changes_mem]
  refine ⟨fun ⟨h1, h2⟩ => ⟨?_, h2⟩, fun ⟨h1, h2⟩ => ⟨?_, h2⟩⟩
  · have := chg_rng hs hc ((changes_mem lo hi l x).2 h1)
    omega
  · by_cases h0 : x = 0
    · exact (chg_mem hs hc x).2 (.inl h0)
    · refine Decidable.byContradiction fun h3 => ?_
      have h4 := fairV_step hs hc (by omega) (by omega) h3
      unfold newB at h2
      simp [h0, h4] at h2
theorem pole_Highest_eq {l : List S54} (hs : signE l = 0) {lo hi : Int} (hc : Clk lo hi) : pole_Highest.f l lo hi = some (highs l lo hi (mins 2001), 0) := by
  unfold pole_Highest.f
  rw [checkClocks_eq, if_pos hs, if_pos (clockB_iff.2 hc), Option.bind_some, if_pos rfl, highO_eq (signE_sign hs) hc, Option.bind_some, highs_mins (signE_sign hs) hc]
end Go.Proofs.Ytcgdbjojjpoegaa.P

namespace Go.Proofs.Ytcgdbjojjpoegaa.P
open Go.RowKit Go.Proofs.YtcgdbjojjpoegaaW.PrintWords Go.Proofs.YtcgdbjojjpoegaaW.PrintLast Go.Proofs.YtcgdbjojjpoegaaW.PrintMore
set_option linter.unusedVariables false
set_option linter.unusedSimpArgs false
set_option maxRecDepth 20000

/-- The fair price is that of the least of the prices that stand in the window. -/
theorem fairI {l : List S54} (hs : Sign l) {lo hi m : Int} (hc : Clk lo hi) (h1 : -10000 ≤ m) (h2 : m ≤ 10000) : ∃ a b : Nat, AtI l (m + lo) a ∧ AtI l (m + hi) b ∧ (∃ i : Nat, a ≤ i ∧ i ≤ b ∧ fairV l lo hi m = (rd_T54 l i).f1) ∧ ∀ i : Nat, a ≤ i → i ≤ b → fairV l lo hi m ≤ (rd_T54 l i).f1 := by
  have ha := hc.a
  have hb := hc.b
  have hcc := hc.c
  obtain ⟨i, hi1, hi2⟩ := at_ex l (m + lo) hs.pos hs.le
  obtain ⟨j, hj1, hj2⟩ := at_ex l (m + hi) hs.pos hs.le
  have hij : i ≤ j := hi1.mon hj1 (by omega)
  have hjl := hj1.lt
  have hv : fairV l lo hi m = (leastP ((l.drop i).take (j + 1 - i))).f1 := by
    unfold fairV pole_fair.f
    rw [wrap_ok (m + lo) (by omega) (by omega), wrap_ok (m + hi) (by omega) (by omega), hi2 100 (by omega), hj2 100 (by omega)]
    simp only [Option.bind_some]
    rw [if_pos (by omega)]
    rfl
  have hne : (l.drop i).take (j + 1 - i) ≠ [] := by
    intro h
    have := congrArg List.length h
    simp only [List.length_take, List.length_drop, List.length_nil] at this
    omega
  obtain ⟨hmem, hle⟩ := leastP_spec _ hne
  refine ⟨i, j, hi1, hj1, ?_, fun n hn hn' => ?_⟩
  · obtain ⟨n, hn⟩ := List.mem_iff_getElem?.1 hmem
    rw [List.getElem?_take] at hn
    split at hn
    · rename_i hlt
      rw [List.getElem?_drop] at hn
      obtain ⟨hb, hn⟩ := List.getElem?_eq_some_iff.1 hn
      exact ⟨i + n, by omega, by omega, by rw [hv, ← hn, ← rdP l (i + n) hb]⟩
    · cases hn
  · rw [hv]
    refine hle _ ?_
    rw [rdP l n (by omega), List.mem_iff_getElem?]
    refine ⟨n - i, ?_⟩
    rw [List.getElem?_take, if_pos (by omega), List.getElem?_drop, show i + (n - i) = n by omega, List.getElem?_eq_getElem (by omega)]
/-- Of two minutes, at the later of which the fair price changes, the price of the later one came up later. -/
theorem fair_later {l : List S54} (hs : Sign l) {lo hi m1 m2 : Int} (hc : Clk lo hi) (h1 : 0 ≤ m1) (h12 : m1 < m2) (h2 : m2 ≤ 2000) (hn : fairV l lo hi m2 ≠ fairV l lo hi (m2 - 1)) {i1 i2 : Nat}
    (p1 : ∃ a b, AtI l (m1 + lo) a ∧ AtI l (m1 + hi) b ∧ a ≤ i1 ∧ i1 ≤ b ∧ fairV l lo hi m1 = (rd_T54 l i1).f1) (p2 : ∃ a b, AtI l (m2 + lo) a ∧ AtI l (m2 + hi) b ∧ a ≤ i2 ∧ i2 ≤ b ∧ fairV l lo hi m2 = (rd_T54 l i2).f1) : i1 < i2 := by
  refine Decidable.byContradiction fun hlt => ?_
  have hle : i2 ≤ i1 := by omega
  obtain ⟨a1, b1, ha1, hb1, q1, q2, q3⟩ := p1
  obtain ⟨a2, b2, ha2, hb2, r1, r2, r3⟩ := p2
  obtain ⟨a1', b1', ha1', hb1', _, w1⟩ := fairI hs hc (m := m1) (by omega) (by omega)
  obtain ⟨a2', b2', ha2', hb2', _, w2⟩ := fairI hs hc (m := m2) (by omega) (by omega)
  obtain ⟨a3, b3, ha3, hb3, ⟨j, j1, j2, j3⟩, w3⟩ := fairI hs hc (m := m2 - 1) (by omega) (by omega)
  have e1 := ha1.uniq ha1'
  have e2 := hb1.uniq hb1'
  have e3 := ha2.uniq ha2'
  have e4 := hb2.uniq hb2'
  subst e1 e2 e3 e4
  have o1 : a1 ≤ a3 := ha1.mon ha3 (by omega)
  have o2 : a3 ≤ a2 := ha3.mon ha2 (by omega)
  have o3 : b1 ≤ b3 := hb1.mon hb3 (by omega)
  have o4 : b3 ≤ b2 := hb3.mon hb2 (by omega)
  have x1 := w3 i2 (by omega) (by omega)
  have x2 := w2 i1 (by omega) (by omega)
  have x3 := w1 i2 (by omega) (by omega)
  rcases Nat.lt_or_ge j a2 with h3 | h3
  · have x4 := w1 j (by omega) (by omega)
    omega
  · have x4 := w2 j h3 (by omega)
    omega
theorem highs_nth {l : List S54} {lo hi : Int} {i : Nat} (h : i < (highs l lo hi (mins 2001)).length) : ∃ m, (highs l lo hi (mins 2001))[i] = mkP l lo hi m ∧ 0 ≤ m ∧ m ≤ 2000 ∧ newB l lo hi m = true := by
  have hm := List.getElem_mem h
  unfold highs at hm
  obtain ⟨m, hm, e⟩ := List.mem_map.1 hm
  rw [List.mem_filter, mins_mem] at hm
  exact ⟨m, e.symm, hm.1.1, by omega, hm.2⟩
theorem highs_has {l : List S54} {lo hi m : Int} (h0 : 0 ≤ m) (h1 : m ≤ 2000) (h : newB l lo hi m = true) : ∃ i : Nat, ∃ hi' : i < (highs l lo hi (mins 2001)).length, (highs l lo hi (mins 2001))[i] = mkP l lo hi m := by
  refine List.mem_iff_getElem.1 ?_
  unfold highs
  exact List.mem_map.2 ⟨m, List.mem_filter.2 ⟨(mins_mem 2001 m).2 ⟨h0, by omega⟩, h⟩, rfl⟩
theorem highs_up (l : List S54) (lo hi : Int) : (highs l lo hi (mins 2001)).Pairwise fun x y => x.f0 < y.f0 := by
  unfold highs
  rw [List.pairwise_map]
  exact ((mins_up 2001).filter _).imp fun h => h
theorem highs_lt {l : List S54} {lo hi : Int} {i j : Nat} (hij : i < j) (hj : j < (highs l lo hi (mins 2001)).length) : (highs l lo hi (mins 2001))[i].f0 < (highs l lo hi (mins 2001))[j].f0 :=
  List.pairwise_iff_getElem.1 (highs_up l lo hi) i j (by omega) hj hij
theorem newB_ne {l : List S54} {lo hi m : Int} (h : newB l lo hi m = true) (h0 : m ≠ 0) : fairV l lo hi m ≠ fairV l lo hi (m - 1) := by
  unfold newB at h
  simp only [Bool.or_eq_true, decide_eq_true_eq] at h
  rcases h with h | h
  · exact absurd h h0
  · exact h
theorem highs_count {l : List S54} (hs : Sign l) {lo hi : Int} (hc : Clk lo hi) : ∀ n : Nat, (h : n < (highs l lo hi (mins 2001)).length) → ∃ i a b : Nat, n ≤ i ∧ i < l.length ∧ AtI l ((highs l lo hi (mins 2001))[n].f0 + lo) a ∧ AtI l ((highs l lo hi (mins 2001))[n].f0 + hi) b ∧ a ≤ i ∧ i ≤ b ∧ fairV l lo hi (highs l lo hi (mins 2001))[n].f0 = (rd_T54 l i).f1
  | 0 => fun h => by
    obtain ⟨m, e, h0, h1, h2⟩ := highs_nth h
    obtain ⟨a, b, ha, hb, ⟨i, h3, h4, h5⟩, _⟩ := fairI hs hc (m := m) (by omega) (by omega)
    rw [e]
    exact ⟨i, a, b, Nat.zero_le _, by have := hb.lt; omega, ha, hb, h3, h4, h5⟩
  | n + 1 => fun h => by
    obtain ⟨i1, a1, b1, g1, g2, g3, g4, g5, g6, g7⟩ := highs_count hs hc n (by omega)
    have hlt := highs_lt (l := l) (lo := lo) (hi := hi) (i := n) (j := n + 1) (by omega) h
    obtain ⟨m', e', h0', h1', h2'⟩ := highs_nth (l := l) (lo := lo) (hi := hi) (i := n) (by omega)
    obtain ⟨m, e, h0, h1, h2⟩ := highs_nth h
    rw [e'] at g3 g4 g7 hlt
    rw [e] at hlt
    have hlt' : m' < m := hlt
    obtain ⟨a, b, ha, hb, ⟨i, h3, h4, h5⟩, _⟩ := fairI hs hc (m := m) (by omega) (by omega)
    have := fair_later hs hc h0' hlt' h1 (newB_ne h2 (by omega)) ⟨a1, b1, g3, g4, g5, g6, g7⟩ ⟨a, b, ha, hb, h3, h4, h5⟩
    rw [e]
    exact ⟨i, a, b, by omega, by have := hb.lt; omega, ha, hb, h3, h4, h5⟩
theorem highs_le {l : List S54} (hs : Sign l) {lo hi : Int} (hc : Clk lo hi) : (highs l lo hi (mins 2001)).length ≤ 30 := by
  rcases Nat.lt_or_ge 30 (highs l lo hi (mins 2001)).length with h | h
  · obtain ⟨i, a, b, h1, h2, _⟩ := highs_count hs hc 30 h
    have := hs.le
    omega
  · exact h
theorem badFrom_no (l : List S54) : ∀ (f : Bool) (next : Int), (∀ i : Nat, (h : i < l.length) → (i = 0 → next ≤ l[i].f0 ∧ (f = true → l[i].f0 ≤ 0)) ∧ l[i].f0 ≤ 2000 ∧ ∀ hj : i + 1 < l.length, l[i].f0 < l[i + 1].f0) → badFrom f next l = false := by
  induction l with
  | nil => intro f next _; rfl
  | cons p l ih =>
    intro f next h
    unfold badFrom
    have h0 := h 0 (by simp)
    have h1 := h0.1 rfl
    have h2 := h0.2.1
    simp only [List.getElem_cons_zero] at h1 h2
    rw [ih false (p.f0 + 1) ?_]
    · rw [decide_eq_false (by omega), decide_eq_false (p := 2000 < p.f0) (by omega)]
      cases f with
      | false => rfl
      | true =>
        rw [decide_eq_false (by have := h1.2 rfl; omega)]
        rfl
    · intro i hi
      have h3 := h (i + 1) (by simpa using hi)
      simp only [List.getElem_cons_succ] at h3
      refine ⟨fun h4 => ⟨?_, fun h5 => by cases h5⟩, h3.2.1, fun hj => h3.2.2 (by simpa using hj)⟩
      subst h4
      have h5 := h0.2.2 (by simpa using hi)
      simp only [List.getElem_cons_zero, List.getElem_cons_succ] at h5
      omega
theorem fairV_rng {l : List S54} (hs : Sign l) {lo hi m : Int} (hc : Clk lo hi) (h1 : -10000 ≤ m) (h2 : m ≤ 10000) : 1 ≤ fairV l lo hi m ∧ fairV l lo hi m ≤ 100000 := by
  obtain ⟨a, b, ha, hb, ⟨i, h3, h4, h5⟩, _⟩ := fairI hs hc h1 h2
  rw [h5]
  exact hs.p1 i (by have := hb.lt; omega)
theorem newB_zero (l : List S54) (lo hi : Int) : newB l lo hi 0 = true := rfl
/-- The highest sign is valid. -/
theorem highs_sign {l : List S54} (hs : Sign l) {lo hi : Int} (hc : Clk lo hi) : signE (highs l lo hi (mins 2001)) = 0 := by
  obtain ⟨i0, hi0, e0⟩ := highs_has (l := l) (lo := lo) (hi := hi) (m := 0) (by omega) (by omega) (newB_zero l lo hi)
  have hle := highs_le hs hc
  have hz : i0 = 0 := by
    rcases Nat.eq_zero_or_pos i0 with h | h
    · exact h
    · have h1 := highs_lt (l := l) (lo := lo) (hi := hi) h hi0
      obtain ⟨m, e, h2, _, _⟩ := highs_nth (l := l) (lo := lo) (hi := hi) (i := 0) (by omega)
      rw [e, e0] at h1
      have : m < 0 := h1
      omega
  subst hz
  unfold signE
  rw [if_neg (by omega), badFrom_no _ _ _ ?_, if_neg (by decide), if_neg]
  · rw [Bool.not_eq_true, List.any_eq_false]
    intro p hp
    obtain ⟨i, hi', e⟩ := List.mem_iff_getElem.1 hp
    obtain ⟨m, e', h1, h2, _⟩ := highs_nth hi'
    have h3 := fairV_rng hs hc (m := m) (by omega) (by omega)
    have h4 : ¬ (p.f1 < 1 ∨ 100000 < p.f1) := by
      rw [← e, e']
      show ¬ (fairV l lo hi m < 1 ∨ 100000 < fairV l lo hi m)
      omega
    rw [badPrice_iff]
    exact h4
  · intro i hi'
    obtain ⟨m, e, h1, h2, _⟩ := highs_nth hi'
    refine ⟨fun h => ?_, by rw [e]; exact h2, fun hj => highs_lt (by omega) hj⟩
    subst h
    rw [e0]
    exact ⟨Int.le_refl _, fun _ => Int.le_refl _⟩
theorem fairV_back {l : List S54} (hs : Sign l) {lo hi : Int} (hc : Clk lo hi) {c : Int} (h0 : 0 ≤ c) : ∀ n : Nat, c + n ≤ 2000 → (∀ t, c < t → t ≤ c + n → newB l lo hi t = false) → fairV l lo hi (c + n) = fairV l lo hi c
  | 0 => fun _ _ => by rw [show c + ((0 : Nat) : Int) = c by omega]
  | n + 1 => fun h1 h2 => by
    have h3 := h2 (c + ((n + 1 : Nat) : Int)) (by omega) (Int.le_refl _)
    unfold newB at h3
    simp only [Bool.or_eq_false_iff, decide_eq_false_iff_not, ne_eq, Decidable.not_not] at h3
    rw [h3.2, show c + ((n + 1 : Nat) : Int) - 1 = c + (n : Int) by omega]
    exact fairV_back hs hc h0 n (by omega) fun t a b => h2 t a (by omega)
/-- The price of the highest sign at a minute is the fair one. -/
theorem highs_at {l : List S54} (hs : Sign l) {lo hi m : Int} (hc : Clk lo hi) (h0 : 0 ≤ m) (h1 : m ≤ 2000) : atV (highs l lo hi (mins 2001)) m = fairV l lo hi m := by
  have hS := signE_sign (highs_sign hs hc)
  obtain ⟨j, hj, _⟩ := at_ex _ m hS.pos hS.le
  obtain ⟨c, e, c0, c1, c2⟩ := highs_nth hj.lt
  have er : rd_T54 (highs l lo hi (mins 2001)) (j : Int) = mkP l lo hi c := (rdP _ j hj.lt).trans e
  rw [hj.val hS.le, er]
  show fairV l lo hi c = fairV l lo hi m
  have hcm : c ≤ m := by
    rcases hj.le with h | h
    · subst h
      have hz := hS.z
      rw [show rd_T54 (highs l lo hi (mins 2001)) 0 = mkP l lo hi c from er] at hz
      have : c = 0 := hz
      omega
    · rw [er] at h
      exact h
  have h2 := fairV_back hs hc c0 (m - c).toNat (by omega) fun t a b => by
    cases hb : newB l lo hi t with
    | false => rfl
    | true =>
      obtain ⟨i, hi', e'⟩ := highs_has (by omega) (by omega) hb
      rcases Nat.lt_or_ge j i with h3 | h3
      · have h4 := hj.gt i h3 hi'
        rw [rdP _ i hi', e'] at h4
        have : m < t := h4
        omega
      · rcases Nat.lt_or_ge i j with h4 | h4
        · have h5 := highs_lt h4 hj.lt
          rw [e, e'] at h5
          have : t < c := h5
          omega
        · have h5 : i = j := by omega
          subst h5
          rw [e] at e'
          injection e' with e6
          omega
  rw [show c + ((m - c).toNat : Int) = m by omega] at h2
  exact h2.symm
/-- Prices of the highest sign that follow each other differ. -/
theorem highs_differ {l : List S54} (hs : Sign l) {lo hi : Int} (hc : Clk lo hi) {i : Nat} (h : i + 1 < (highs l lo hi (mins 2001)).length) : (highs l lo hi (mins 2001))[i + 1].f1 ≠ (highs l lo hi (mins 2001))[i].f1 := by
  have hS := signE_sign (highs_sign hs hc)
  obtain ⟨m, e, m0, m1, m2⟩ := highs_nth h
  obtain ⟨c, e', c0, c1, c2⟩ := highs_nth (l := l) (lo := lo) (hi := hi) (i := i) (by omega)
  have hlt := highs_lt (l := l) (lo := lo) (hi := hi) (i := i) (j := i + 1) (by omega) h
  rw [e, e'] at hlt ⊢
  have hcm : c < m := hlt
  show fairV l lo hi m ≠ fairV l lo hi c
  have h2 := fairV_back hs hc c0 (m - 1 - c).toNat (by omega) fun t a b => by
    cases hb : newB l lo hi t with
    | false => rfl
    | true =>
      obtain ⟨n, hn, en⟩ := highs_has (by omega) (by omega) hb
      rcases Nat.lt_or_ge i n with h3 | h3
      · rcases Nat.lt_or_ge (i + 1) n with h4 | h4
        · have h5 := highs_lt h4 hn
          rw [e, en] at h5
          have : m < t := h5
          omega
        · have h5 : n = i + 1 := by omega
          subst h5
          rw [e] at en
          injection en with e6
          omega
      · rcases Nat.lt_or_ge n i with h4 | h4
        · have h5 := highs_lt (l := l) (lo := lo) (hi := hi) h4 (by omega)
          rw [e', en] at h5
          have : t < c := h5
          omega
        · have h5 : n = i := by omega
          subst h5
          rw [e'] at en
          injection en with e6
          omega
  rw [show c + ((m - 1 - c).toNat : Int) = m - 1 by omega] at h2
  rw [← h2]
  exact newB_ne m2 (by omega)
end Go.Proofs.Ytcgdbjojjpoegaa.P

namespace Go.Proofs.Ytcgdbjojjpoegaa.P
open Go.RowKit Go.Proofs.YtcgdbjojjpoegaaW.PrintWords Go.Proofs.YtcgdbjojjpoegaaW.PrintLast Go.Proofs.YtcgdbjojjpoegaaW.PrintMore
attribute [local go_sem] max2_int min2_int max_two min_two max_three min_three max_four min_four   -- for this text's walks alone
set_option linter.unusedVariables false
set_option linter.unusedSimpArgs false

/-! ### forecourtlaw09_fine: function 35 -/
def forecourtlaw09_fine.f (k : Nat) (l0 : List (S54)) (a1_0 : Int) (a1_1 : Int) : Option (Bool) := if (l0.length : Int) ≤ 40 then ((forecourtref09_CheckSign.f k l0).bind fun t515 => (if t515 = 0 then ((forecourtref09_IsClocks.f a1_0 a1_1).bind fun t516 => (some t516)) else (some false))) else (some false)
set_option maxHeartbeats 8000000 in
set_option maxRecDepth 100000 in
theorem forecourtlaw09_fine.calls (k : Nat) (A0 : Option Addr) (c0 : Nat) (l0 : List (S54)) (a1_0 : Int) (a1_1 : Int) (r : Bool) (w : World) (hr0 : Kd.C k54 w A0 l0.length l0) (hc0 : l0.length ≤ c0) (h : forecourtlaw09_fine.f k l0 a1_0 a1_1 = some r) :
    Calls Try.prog 35 #[.slice A0 l0.length c0, .agg #[.int .i64 a1_0, .int .i64 a1_1]] w fun e w' => e = .returned (.bool r) ∧ Below w.heap.size w w' := by
  have hu24 := Try.underlying24
  have HR0 := Aside0.mk hr0
  have HC0 := Aside0.mk hc0
  clear hr0 hc0
  have HB := Aside0.mk (Below.refl w.heap.size w)
  have H : (if (l0.length : Int) ≤ 40 then ((forecourtref09_CheckSign.f k l0).bind fun t515 => (if t515 = 0 then ((forecourtref09_IsClocks.f a1_0 a1_1).bind fun t516 => (some t516)) else (some false))) else (some false)) = some r := h
  clear h
  by_cases c3 : (l0.length : Int) ≤ 40
  rotate_left
  · rw [if_neg c3] at H
    have c3b0 : decide ((l0.length : Int) ≤ 40) = false := decide_eq_false c3
    have c3b1 : decide (l0.length ≤ 40) = false := decide_eq_false (by omega)
    clear c3
    obtain rfl := Option.some.inj H
    go_enter Try.func35, Try.ntmps35
    go_wp2_with (first | ((with_reducible refine gate_dst (N := 3) rfl ?_); refine bx_ (cs := #[.int .i64 a1_0, .int .i64 a1_1]) (t := 24) (fun gb514 w11 BK514 GE514 HB => ?_)))
    go_ret
    exact ⟨b4_, b1_⟩
  rw [if_pos c3] at H
  have c3b0 : decide ((l0.length : Int) ≤ 40) = true := decide_eq_true c3
  have c3b1 : decide (l0.length ≤ 40) = true := decide_eq_true (by omega)
  clear c3
  replace H := Option.bind_eq_some_iff.mp H
  obtain ⟨t515, A40, H⟩ := H
  replace H : (if t515 = 0 then ((forecourtref09_IsClocks.f a1_0 a1_1).bind fun t516 => (some t516)) else (some false)) = some r := H
  have A4 := Aside0.mk A40
  clear A40
  by_cases c5 : t515 = 0
  rotate_left
  · rw [if_neg c5] at H
    have c5b0 : (t515 == 0) = false := beq_eq_false_iff_ne.mpr c5
    have c5b1 : (t515 != 0) = true := bne_iff_ne.mpr c5
    obtain rfl := Option.some.inj H
    go_enter Try.func35, Try.ntmps35
    go_wp2_with (first | ((with_reducible refine gate_dst (N := 3) rfl ?_); refine bx_ (cs := #[.int .i64 a1_0, .int .i64 a1_1]) (t := 24) (fun gb514 w10 BK514 GE514 HB => ?_)) | (go_at_call 21; (with_reducible refine (forecourtref09_CheckSign.calls k _ _ l0 t515 _ ?side1 ?side2 A4.out).mono ?_); (case side1 => repeat (first | exact (Kd.C_below HR0.out HB.out) | (with_reducible refine Kd.C_alloc ?_ _) | (with_reducible refine Kd.C_drewN ?_ _) | (with_reducible refine Kd.C_drew ?_))); (case side2 => exact HC0.out); rintro e w' ⟨rfl, ⟨nd, rfl⟩⟩))
    go_ret
    exact ⟨b4_, b1_⟩
  rw [if_pos c5] at H
  have c5b0 : (t515 == 0) = true := beq_iff_eq.mpr c5
  have c5b1 : (t515 != 0) = false := bne_eq_false_iff_eq.mpr c5
  clear c5
  replace H := Option.bind_eq_some_iff.mp H
  obtain ⟨t516, A60, H⟩ := H
  replace H : (some t516) = some r := H
  have A6 := Aside0.mk A60
  clear A60
  obtain rfl := Option.some.inj H
  go_enter Try.func35, Try.ntmps35
  go_wp2_with (first | ((with_reducible refine gate_dst (N := 3) rfl ?_); refine bx_ (cs := #[.int .i64 a1_0, .int .i64 a1_1]) (t := 24) (fun gb514 w7 BK514 GE514 HB => ?_)) | (go_at_call 21; (with_reducible refine (forecourtref09_CheckSign.calls k _ _ l0 t515 _ ?side1 ?side2 A4.out).mono ?_); (case side1 => repeat (first | exact (Kd.C_below HR0.out HB.out) | (with_reducible refine Kd.C_alloc ?_ _) | (with_reducible refine Kd.C_drewN ?_ _) | (with_reducible refine Kd.C_drew ?_))); (case side2 => exact HC0.out); rintro e w' ⟨rfl, ⟨nd, rfl⟩⟩; obtain ⟨hcz8_0, hcz8_1, hfz8_0, hfz8_1⟩ := cz2_ BK514.out) | (go_at_call 39; (with_reducible refine (forecourtref09_IsClocks.calls a1_0 a1_1 t516 _ A6.out).mono ?_); rintro e w9 ⟨rfl, hb⟩; replace BK514 := bk_ BK514 hb; replace HB := hB_ HB hb; (try clear hb)))
  go_ret
  exact ⟨b4_, b1_⟩

end Go.Proofs.Ytcgdbjojjpoegaa.P

namespace Go.Proofs.Ytcgdbjojjpoegaa.P
open Go.RowKit Go.Proofs.YtcgdbjojjpoegaaW.PrintWords Go.Proofs.YtcgdbjojjpoegaaW.PrintLast Go.Proofs.YtcgdbjojjpoegaaW.PrintMore
attribute [local go_sem] max2_int min2_int max_two min_two max_three min_three max_four min_four   -- for this text's walks alone
set_option linter.unusedVariables false
set_option linter.unusedSimpArgs false

/-! ### forecourtlaw09_PoleFair: function 7 -/
mutual
def forecourtlaw09_PoleFair.j0 : Nat → List (S54) → List (S54) → Int → Int → Bool → Int → Int → Option (Bool)
  | 0, _, _, _, _, _, _, _ => none
  | k + 1, x0, x2, x3, x4, x35, x518000, x518001 => if x35 = true then ((forecourtlaw09_Works.f).bind fun t519 => (some t519)) else (if (wrap64 ((wrap64 (x518001 - x518000)) + 1)) = 0 then (none) else ((pole_Highest.f x0 x518000 x518001).bind fun bt520 => (if bt520.2 = 0 then ((forecourtref09_CheckSign.f k bt520.1).bind fun t524 => (forecourtlaw09_PoleFair.j1 k x0 x2 (Int.tmod (wrap64 (x3)) 2001) (wrap64 (x518000 + (Int.tmod (wrap64 (x4)) (wrap64 ((wrap64 (x518001 - x518000)) + 1))))) bt520.1 (t524 != 0) x518000 x518001)) else (forecourtlaw09_PoleFair.j1 k x0 x2 (Int.tmod (wrap64 (x3)) 2001) (wrap64 (x518000 + (Int.tmod (wrap64 (x4)) (wrap64 ((wrap64 (x518001 - x518000)) + 1))))) bt520.1 true x518000 x518001))))
def forecourtlaw09_PoleFair.j1 : Nat → List (S54) → List (S54) → Int → Int → List (S54) → Bool → Int → Int → Option (Bool)
  | 0, _, _, _, _, _, _, _, _ => none
  | k + 1, x0, x2, x11, x12, x13, x64, x518000, x518001 => if x64 = true then (some false) else ((pole_Price.f k x13 x11).bind fun bt525 => ((pole_Cheat.f x0 x13 x518000 x518001).bind fun bt527 => ((pole_Fair.f x0 x518000 x518001 x11).bind fun bt529 => (if bt525.2 = 0 then (if bt527.2 = 5 then (if bt529.2 = 0 then ((forecourtref09_At.f k x0 (wrap64 (x11 + x12))).bind fun t531 => (if bt525.1 > t531 then (forecourtlaw09_PoleFair.j2 k x0 x2 x11 x13 bt525.1 bt529.1 true x518000 x518001) else (forecourtlaw09_PoleFair.j2 k x0 x2 x11 x13 bt525.1 bt529.1 (bt525.1 != bt529.1) x518000 x518001))) else (forecourtlaw09_PoleFair.j2 k x0 x2 x11 x13 bt525.1 bt529.1 true x518000 x518001)) else (forecourtlaw09_PoleFair.j2 k x0 x2 x11 x13 bt525.1 bt529.1 true x518000 x518001)) else (forecourtlaw09_PoleFair.j2 k x0 x2 x11 x13 bt525.1 bt529.1 true x518000 x518001)))))
def forecourtlaw09_PoleFair.j2 : Nat → List (S54) → List (S54) → Int → List (S54) → Int → Int → Bool → Int → Int → Option (Bool)
  | 0, _, _, _, _, _, _, _, _, _ => none
  | k + 1, x0, x2, x11, x13, x15, x19, x108, x518000, x518001 => if x108 = true then (some false) else (forecourtlaw09_PoleFair.l0 k x0 x2 x11 x13 x15 x19 1 x518000 x518001)
def forecourtlaw09_PoleFair.l0 : Nat → List (S54) → List (S54) → Int → List (S54) → Int → Int → Int → Int → Int → Option (Bool)
  | 0, _, _, _, _, _, _, _, _, _ => none
  | k + 1, x0, x2, x11, x13, x15, x19, x21, x518000, x518001 => if x21 < (x13.length : Int) then (if 0 ≤ x21 then (if 0 ≤ (wrap64 (x21 - 1)) then (if (wrap64 (x21 - 1)) < (x13.length : Int) then (if ((rd_T54 x13 x21).f1) = ((rd_T54 x13 (wrap64 (x21 - 1))).f1) then (some false) else (forecourtlaw09_PoleFair.l0 k x0 x2 x11 x13 x15 x19 (wrap64 (x21 + 1)) x518000 x518001)) else (none)) else (none)) else (none)) else ((forecourtref09_CheckSign.f k x2).bind fun t534 => (if t534 = 0 then ((pole_Cheat.f x0 x2 x518000 x518001).bind fun bt536 => ((pole_Price.f k x2 x11).bind fun bt538 => (if bt538.2 = 0 then (if bt536.2 = 0 then (forecourtlaw09_PoleFair.j4 k x0 x2 x11 bt536.2 x15 x19 bt536.1 bt538.1 false x518000 x518001) else (forecourtlaw09_PoleFair.j4 k x0 x2 x11 bt536.2 x15 x19 bt536.1 bt538.1 (bt536.2 != 5) x518000 x518001)) else (forecourtlaw09_PoleFair.j4 k x0 x2 x11 bt536.2 x15 x19 bt536.1 bt538.1 true x518000 x518001)))) else ((forecourtlaw09_Works.f).bind fun t535 => (some t535))))
def forecourtlaw09_PoleFair.j4 : Nat → List (S54) → List (S54) → Int → Int → Int → Int → Int → Int → Bool → Int → Int → Option (Bool)
  | 0, _, _, _, _, _, _, _, _, _, _, _ => none
  | k + 1, x0, x2, x11, x14, x15, x19, x22, x23, x153, x518000, x518001 => if x153 = true then (some false) else (if x14 = 5 then (if x23 ≤ x15 then ((forecourtlaw09_Works.f).bind fun t540 => (some t540)) else (some false)) else (if x22 < 0 then (forecourtlaw09_PoleFair.j5 k x0 x2 x22 true x518000 x518001) else (if x22 > 2000 then (forecourtlaw09_PoleFair.j5 k x0 x2 x22 true x518000 x518001) else (if x11 < x22 then (forecourtlaw09_PoleFair.j5 k x0 x2 x22 (decide (x23 > x19)) x518000 x518001) else (forecourtlaw09_PoleFair.j5 k x0 x2 x22 false x518000 x518001)))))
def forecourtlaw09_PoleFair.j5 : Nat → List (S54) → List (S54) → Int → Bool → Int → Int → Option (Bool)
  | 0, _, _, _, _, _, _ => none
  | k + 1, x0, x2, x22, x177, x518000, x518001 => if x177 = true then (some false) else ((pole_Price.f k x2 x22).bind fun bt541 => ((pole_Fair.f x0 x518000 x518001 x22).bind fun bt543 => (if bt541.2 = 0 then (if bt543.2 = 0 then (if bt541.1 > bt543.1 then ((forecourtlaw09_Works.f).bind fun t545 => (some t545)) else (some false)) else (some false)) else (some false))))
end
def forecourtlaw09_PoleFair.f (k : Nat) (l0 : List (S54)) (a1_0 : Int) (a1_1 : Int) (l2 : List (S54)) (a3 : Int) (a4 : Int) : Option (Bool) := (forecourtlaw09_fine.f k l0 a1_0 a1_1).bind fun t518 => (if t518 = true then (forecourtlaw09_PoleFair.j0 k l0 l2 a3 a4 (decide ((l2.length : Int) > 40)) a1_0 a1_1) else (forecourtlaw09_PoleFair.j0 k l0 l2 a3 a4 true a1_0 a1_1))
set_option maxHeartbeats 8000000 in
set_option maxRecDepth 100000 in
theorem forecourtlaw09_PoleFair.calls (k : Nat) (A0 : Option Addr) (c0 : Nat) (l0 : List (S54)) (a1_0 : Int) (a1_1 : Int) (A2 : Option Addr) (c2 : Nat) (l2 : List (S54)) (a3 : Int) (a4 : Int) (r : Bool) (w : World) (hr0 : Kd.C k54 w A0 l0.length l0) (hc0 : l0.length ≤ c0) (hr2 : Kd.C k54 w A2 l2.length l2) (hc2 : l2.length ≤ c2) (h : forecourtlaw09_PoleFair.f k l0 a1_0 a1_1 l2 a3 a4 = some r) :
    Calls Try.prog 7 #[.slice A0 l0.length c0, .agg #[.int .i64 a1_0, .int .i64 a1_1], .slice A2 l2.length c2, .int .u16 a3, .int .u8 a4] w fun e w' => e = .returned (.bool r) ∧ Below w.heap.size w w' := by
  have hu24 := Try.underlying24
  have HR0 := Aside0.mk hr0
  have HC0 := Aside0.mk hc0
  clear hr0 hc0
  have HR2 := Aside0.mk hr2
  have HC2 := Aside0.mk hc2
  clear hr2 hc2
  have HB := Aside0.mk (Below.refl w.heap.size w)
  have H : ((forecourtlaw09_fine.f k l0 a1_0 a1_1).bind fun t518 => (if t518 = true then (forecourtlaw09_PoleFair.j0 k l0 l2 a3 a4 (decide ((l2.length : Int) > 40)) a1_0 a1_1) else (forecourtlaw09_PoleFair.j0 k l0 l2 a3 a4 true a1_0 a1_1))) = some r := h
  clear h
  have HC6 := Aside0.mk H
  clear H
  go_enter Try.func7, Try.ntmps7
  go_upto_region 1 with (first | ((with_reducible refine gate_dst (N := 6) rfl ?_); (try (refine gate_guard (by rfl) ?_; dsimp only)); refine bx_ (cs := #[.int .i64 a1_0, .int .i64 a1_1]) (t := 24) (fun gb517 w7 BK517 GE517 HB => ?_)))
  repeat (go_quiet (first | ((with_reducible refine gate_dst (N := 6) rfl ?_); (try (refine gate_guard (by rfl) ?_; dsimp only)); refine bx_ (cs := #[.int .i64 a1_0, .int .i64 a1_1]) (t := 24) (fun gb517 w7 BK517 GE517 HB => ?_))); go_upto_region 1 with (first | ((with_reducible refine gate_dst (N := 6) rfl ?_); (try (refine gate_guard (by rfl) ?_; dsimp only)); refine bx_ (cs := #[.int .i64 a1_0, .int .i64 a1_1]) (t := 24) (fun gb517 w7 BK517 GE517 HB => ?_))))
  (try simp only [Act.put, List.setIfInBounds_toArray, List.set_cons_zero, List.set_cons_succ])
  go_cut [35] (fun v35 wc => ∃ (kq : Nat) (x35_5 : Bool), v35 = .bool x35_5 ∧ Aside0 (forecourtlaw09_PoleFair.j0 kq l0 l2 a3 a4 x35_5 a1_0 a1_1 = some r) ∧ Aside0 (kq ≤ k) ∧ Aside0 (wc.heap[gb517]? = some (.cells #[.int .i64 a1_0, .int .i64 a1_1] 24 (0, 0))) ∧ Aside0 (Below w.heap.size w wc))
  case first => as_aux_lemma =>
    have H := HC6.out
    clear HC6
    replace H := Option.bind_eq_some_iff.mp H
    obtain ⟨t518, A80, H⟩ := H
    replace H : (if t518 = true then (forecourtlaw09_PoleFair.j0 k l0 l2 a3 a4 (decide ((l2.length : Int) > 40)) a1_0 a1_1) else (forecourtlaw09_PoleFair.j0 k l0 l2 a3 a4 true a1_0 a1_1)) = some r := H
    have A8 := Aside0.mk A80
    clear A80
    by_cases c9 : t518 = true
    · subst c9
      have H1 : (forecourtlaw09_PoleFair.j0 k l0 l2 a3 a4 (decide ((l2.length : Int) > 40)) a1_0 a1_1) = some r := by rw [if_pos rfl] at H; exact H
      clear H
      have H := H1
      clear H1
      have H' := Aside0.mk H
      clear H
      obtain ⟨hcz10_0, hcz10_1, hfz10_0, hfz10_1⟩ := cz2_ BK517.out
      go_wp2_with (first | (go_at_call 35; (with_reducible refine (forecourtlaw09_fine.calls k _ _ l0 a1_0 a1_1 true _ ?side1 ?side2 A8.out).mono ?_); (case side1 => repeat (first | exact (Kd.C_below HR0.out HB.out) | (with_reducible refine Kd.C_alloc ?_ _) | (with_reducible refine Kd.C_drewN ?_ _) | (with_reducible refine Kd.C_drew ?_))); (case side2 => exact HC0.out); rintro e w11 ⟨rfl, hb⟩; replace BK517 := bk_ BK517 hb; replace HB := hB_ HB hb; (try clear hb)))
      repeat (go_quiet (first | (go_at_call 35; (with_reducible refine (forecourtlaw09_fine.calls k _ _ l0 a1_0 a1_1 true _ ?side1 ?side2 A8.out).mono ?_); (case side1 => repeat (first | exact (Kd.C_below HR0.out HB.out) | (with_reducible refine Kd.C_alloc ?_ _) | (with_reducible refine Kd.C_drewN ?_ _) | (with_reducible refine Kd.C_drew ?_))); (case side2 => exact HC0.out); rintro e w11 ⟨rfl, hb⟩; replace BK517 := bk_ BK517 hb; replace HB := hB_ HB hb; (try clear hb))); try go_wp2_with (first | (go_at_call 35; (with_reducible refine (forecourtlaw09_fine.calls k _ _ l0 a1_0 a1_1 true _ ?side1 ?side2 A8.out).mono ?_); (case side1 => repeat (first | exact (Kd.C_below HR0.out HB.out) | (with_reducible refine Kd.C_alloc ?_ _) | (with_reducible refine Kd.C_drewN ?_ _) | (with_reducible refine Kd.C_drew ?_))); (case side2 => exact HC0.out); rintro e w11 ⟨rfl, hb⟩; replace BK517 := bk_ BK517 hb; replace HB := hB_ HB hb; (try clear hb))))
      go_meet
      case rel => exact ⟨_, (decide ((l2.length : Int) > 40)), b5_, H', ⟨b26_⟩, ⟨b12_⟩, ⟨b1_⟩⟩
    replace c9 := Bool.eq_false_iff.mpr c9
    subst c9
    have H1 : (forecourtlaw09_PoleFair.j0 k l0 l2 a3 a4 true a1_0 a1_1) = some r := by rw [if_neg (show ¬ (false = true) by decide)] at H; exact H
    clear H
    have H := H1
    clear H1
    have H' := Aside0.mk H
    clear H
    obtain ⟨hcz12_0, hcz12_1, hfz12_0, hfz12_1⟩ := cz2_ BK517.out
    go_wp2_with (first | (go_at_call 35; (with_reducible refine (forecourtlaw09_fine.calls k _ _ l0 a1_0 a1_1 false _ ?side1 ?side2 A8.out).mono ?_); (case side1 => repeat (first | exact (Kd.C_below HR0.out HB.out) | (with_reducible refine Kd.C_alloc ?_ _) | (with_reducible refine Kd.C_drewN ?_ _) | (with_reducible refine Kd.C_drew ?_))); (case side2 => exact HC0.out); rintro e w13 ⟨rfl, hb⟩; replace BK517 := bk_ BK517 hb; replace HB := hB_ HB hb; (try clear hb)))
    repeat (go_quiet (first | (go_at_call 35; (with_reducible refine (forecourtlaw09_fine.calls k _ _ l0 a1_0 a1_1 false _ ?side1 ?side2 A8.out).mono ?_); (case side1 => repeat (first | exact (Kd.C_below HR0.out HB.out) | (with_reducible refine Kd.C_alloc ?_ _) | (with_reducible refine Kd.C_drewN ?_ _) | (with_reducible refine Kd.C_drew ?_))); (case side2 => exact HC0.out); rintro e w13 ⟨rfl, hb⟩; replace BK517 := bk_ BK517 hb; replace HB := hB_ HB hb; (try clear hb))); try go_wp2_with (first | (go_at_call 35; (with_reducible refine (forecourtlaw09_fine.calls k _ _ l0 a1_0 a1_1 false _ ?side1 ?side2 A8.out).mono ?_); (case side1 => repeat (first | exact (Kd.C_below HR0.out HB.out) | (with_reducible refine Kd.C_alloc ?_ _) | (with_reducible refine Kd.C_drewN ?_ _) | (with_reducible refine Kd.C_drew ?_))); (case side2 => exact HC0.out); rintro e w13 ⟨rfl, hb⟩; replace BK517 := bk_ BK517 hb; replace HB := hB_ HB hb; (try clear hb))))
    go_meet
    case rel => exact ⟨_, (true), b5_, H', ⟨b26_⟩, ⟨b12_⟩, ⟨b1_⟩⟩
  clear HC6
  try clear c2
  try clear p2
  try clear c7
  try clear c9
  try clear hcz10_0
  try clear hcz10_1
  try clear hcz12_0
  try clear hcz12_1
  try clear hfz10_0
  try clear hfz10_1
  try clear hfz12_0
  try clear hfz12_1
  obtain ⟨kq, x35_5, rfl, HA, HJ5, BK517, HB⟩ := hcut
  cases kq with
  | zero => exact absurd HA.out (by simp [forecourtlaw09_PoleFair.j0])
  | succ kj5 => ?_
  as_aux_lemma =>
  have H := HA.out
  clear HA
  simp only [forecourtlaw09_PoleFair.j0] at H
  by_cases c14 : x35_5 = true
  · subst c14
    have H1 : ((forecourtlaw09_Works.f).bind fun t519 => (some t519)) = some r := by rw [if_pos rfl] at H; exact H
    clear H
    have H := H1
    clear H1
    replace H := Option.bind_eq_some_iff.mp H
    obtain ⟨t519, A150, H⟩ := H
    replace H : (some t519) = some r := H
    have A15 := Aside0.mk A150
    clear A150
    obtain rfl := Option.some.inj H
    go_wp2_with (first | (go_at_call 15; (with_reducible refine (forecourtlaw09_Works.calls  t519 _ A15.out).mono ?_); rintro e w16 ⟨rfl, hb⟩; replace BK517 := bk_ BK517 hb; replace HB := hB_ HB hb; (try clear hb)))
    repeat (go_quiet (first | (go_at_call 15; (with_reducible refine (forecourtlaw09_Works.calls  t519 _ A15.out).mono ?_); rintro e w16 ⟨rfl, hb⟩; replace BK517 := bk_ BK517 hb; replace HB := hB_ HB hb; (try clear hb))); try go_wp2_with (first | (go_at_call 15; (with_reducible refine (forecourtlaw09_Works.calls  t519 _ A15.out).mono ?_); rintro e w16 ⟨rfl, hb⟩; replace BK517 := bk_ BK517 hb; replace HB := hB_ HB hb; (try clear hb))))
    go_ret
    exact ⟨b4_, b1_⟩
  replace c14 := Bool.eq_false_iff.mpr c14
  subst c14
  have H1 : (if (wrap64 ((wrap64 (a1_1 - a1_0)) + 1)) = 0 then (none) else ((pole_Highest.f l0 a1_0 a1_1).bind fun bt520 => (if bt520.2 = 0 then ((forecourtref09_CheckSign.f kj5 bt520.1).bind fun t524 => (forecourtlaw09_PoleFair.j1 kj5 l0 l2 (Int.tmod (wrap64 (a3)) 2001) (wrap64 (a1_0 + (Int.tmod (wrap64 (a4)) (wrap64 ((wrap64 (a1_1 - a1_0)) + 1))))) bt520.1 (t524 != 0) a1_0 a1_1)) else (forecourtlaw09_PoleFair.j1 kj5 l0 l2 (Int.tmod (wrap64 (a3)) 2001) (wrap64 (a1_0 + (Int.tmod (wrap64 (a4)) (wrap64 ((wrap64 (a1_1 - a1_0)) + 1))))) bt520.1 true a1_0 a1_1)))) = some r := by rw [if_neg (show ¬ (false = true) by decide)] at H; exact H
  clear H
  have H := H1
  clear H1
  by_cases c17 : (wrap64 ((wrap64 (a1_1 - a1_0)) + 1)) = 0
  · rw [if_pos c17] at H
    exact absurd H (by simp)
  rw [if_neg c17] at H
  have c17b0 : ((wrap64 ((wrap64 (a1_1 - a1_0)) + 1)) == 0) = false := beq_eq_false_iff_ne.mpr c17
  have c17b1 : ((wrap64 ((wrap64 (a1_1 - a1_0)) + 1)) != 0) = true := bne_iff_ne.mpr c17
  replace H := Option.bind_eq_some_iff.mp H
  obtain ⟨⟨t520, t523⟩, A180, H⟩ := H
  replace H : (if t523 = 0 then ((forecourtref09_CheckSign.f kj5 t520).bind fun t524 => (forecourtlaw09_PoleFair.j1 kj5 l0 l2 (Int.tmod (wrap64 (a3)) 2001) (wrap64 (a1_0 + (Int.tmod (wrap64 (a4)) (wrap64 ((wrap64 (a1_1 - a1_0)) + 1))))) t520 (t524 != 0) a1_0 a1_1)) else (forecourtlaw09_PoleFair.j1 kj5 l0 l2 (Int.tmod (wrap64 (a3)) 2001) (wrap64 (a1_0 + (Int.tmod (wrap64 (a4)) (wrap64 ((wrap64 (a1_1 - a1_0)) + 1))))) t520 true a1_0 a1_1)) = some r := H
  have A18 := Aside0.mk A180
  clear A180
  have HC19 := Aside0.mk H
  clear H
  obtain ⟨hcz20_0, hcz20_1, hfz20_0, hfz20_1⟩ := cz2_ BK517.out
  go_upto_region 6 with (first | (go_at_call 24; (with_reducible refine (pole_Highest.calls _ _ l0 a1_0 a1_1 t520 t523 _ ?side1 ?side2 A18.out).mono ?_); (case side1 => repeat (first | exact (Kd.C_below HR0.out HB.out) | (with_reducible refine Kd.C_alloc ?_ _) | (with_reducible refine Kd.C_drewN ?_ _) | (with_reducible refine Kd.C_drew ?_))); (case side2 => exact HC0.out); rintro e w21 ⟨v521, rfl, ho0, hb⟩; have HO522 := Aside0.mk (Kd.R_lower ho0 (below_size b1_)); replace BK517 := bk_ BK517 hb; replace HB := hB_ HB hb; (try clear hb)))
  repeat (go_quiet (first | (go_at_call 24; (with_reducible refine (pole_Highest.calls _ _ l0 a1_0 a1_1 t520 t523 _ ?side1 ?side2 A18.out).mono ?_); (case side1 => repeat (first | exact (Kd.C_below HR0.out HB.out) | (with_reducible refine Kd.C_alloc ?_ _) | (with_reducible refine Kd.C_drewN ?_ _) | (with_reducible refine Kd.C_drew ?_))); (case side2 => exact HC0.out); rintro e w21 ⟨v521, rfl, ho0, hb⟩; have HO522 := Aside0.mk (Kd.R_lower ho0 (below_size b1_)); replace BK517 := bk_ BK517 hb; replace HB := hB_ HB hb; (try clear hb))); go_upto_region 6 with (first | (go_at_call 24; (with_reducible refine (pole_Highest.calls _ _ l0 a1_0 a1_1 t520 t523 _ ?side1 ?side2 A18.out).mono ?_); (case side1 => repeat (first | exact (Kd.C_below HR0.out HB.out) | (with_reducible refine Kd.C_alloc ?_ _) | (with_reducible refine Kd.C_drewN ?_ _) | (with_reducible refine Kd.C_drew ?_))); (case side2 => exact HC0.out); rintro e w21 ⟨v521, rfl, ho0, hb⟩; have HO522 := Aside0.mk (Kd.R_lower ho0 (below_size b1_)); replace BK517 := bk_ BK517 hb; replace HB := hB_ HB hb; (try clear hb))))
  (try simp only [Act.put, List.setIfInBounds_toArray, List.set_cons_zero, List.set_cons_succ])
  go_cut [64] (fun v64 wc => ∃ (kq : Nat) (x64_18 : Bool), v64 = .bool x64_18 ∧ Aside0 (forecourtlaw09_PoleFair.j1 kq l0 l2 (Int.tmod (wrap64 (a3)) 2001) (wrap64 (a1_0 + (Int.tmod (wrap64 (a4)) (wrap64 ((wrap64 (a1_1 - a1_0)) + 1))))) t520 x64_18 a1_0 a1_1 = some r) ∧ Aside0 (kq ≤ kj5) ∧ Aside0 (Kd.R k54 54 wc w.heap.size (fun _ => True) v521 t520) ∧ Aside0 (wc.heap[gb517]? = some (.cells #[.int .i64 a1_0, .int .i64 a1_1] 24 (0, 0))) ∧ Aside0 (Below w.heap.size w wc))
  case first => as_aux_lemma =>
    have H := HC19.out
    clear HC19
    clear c17
    by_cases c22 : t523 = 0
    rotate_left
    · rw [if_neg c22] at H
      have c22b0 : (t523 == 0) = false := beq_eq_false_iff_ne.mpr c22
      have c22b1 : (t523 != 0) = true := bne_iff_ne.mpr c22
      (first | rw [c22b0] | (simp only [i64_w, i32_w]; rw [c22b0]) | skip)
      have H' := Aside0.mk H
      clear H
      go_wp2
      repeat (go_quiet (fail); try go_wp2)
      go_meet
      case rel => exact ⟨_, (true), b5_, H', ⟨(by have := HJ5.out; first | omega | exact Nat.le_refl _)⟩, ⟨(by (with_reducible repeat (first | apply Kd.R_alloc | apply Kd.R_drewN | apply Kd.R_drew)); exact HO522.out)⟩, ⟨b12_⟩, ⟨b1_⟩⟩
    rw [if_pos c22] at H
    have c22b0 : (t523 == 0) = true := beq_iff_eq.mpr c22
    have c22b1 : (t523 != 0) = false := bne_eq_false_iff_eq.mpr c22
    clear c22
    (first | rw [c22b0] | (simp only [i64_w, i32_w]; rw [c22b0]) | skip)
    replace H := Option.bind_eq_some_iff.mp H
    obtain ⟨t524, A230, H⟩ := H
    replace H : (forecourtlaw09_PoleFair.j1 kj5 l0 l2 (Int.tmod (wrap64 (a3)) 2001) (wrap64 (a1_0 + (Int.tmod (wrap64 (a4)) (wrap64 ((wrap64 (a1_1 - a1_0)) + 1))))) t520 (t524 != 0) a1_0 a1_1) = some r := H
    have A23 := Aside0.mk A230
    clear A230
    have H' := Aside0.mk H
    clear H
    obtain ⟨Ao24, co24, eo24⟩ := Kd.R_slice HO522.out
    subst eo24
    go_wp2_with (first | (go_at_call 21; (with_reducible refine (forecourtref09_CheckSign.calls kj5 _ _ t520 t524 _ ?side1 ?side2 A23.out).mono ?_); (case side1 => repeat (first | exact (Kd.R_reads' HO522.out).2.2 | (with_reducible refine Kd.C_alloc ?_ _) | (with_reducible refine Kd.C_drewN ?_ _) | (with_reducible refine Kd.C_drew ?_))); (case side2 => exact (Kd.R_reads' HO522.out).2.1); rintro e w' ⟨rfl, ⟨nd, rfl⟩⟩; (try exact dd_)))
    repeat (go_quiet (first | (go_at_call 21; (with_reducible refine (forecourtref09_CheckSign.calls kj5 _ _ t520 t524 _ ?side1 ?side2 A23.out).mono ?_); (case side1 => repeat (first | exact (Kd.R_reads' HO522.out).2.2 | (with_reducible refine Kd.C_alloc ?_ _) | (with_reducible refine Kd.C_drewN ?_ _) | (with_reducible refine Kd.C_drew ?_))); (case side2 => exact (Kd.R_reads' HO522.out).2.1); rintro e w' ⟨rfl, ⟨nd, rfl⟩⟩; (try exact dd_))); try go_wp2_with (first | (go_at_call 21; (with_reducible refine (forecourtref09_CheckSign.calls kj5 _ _ t520 t524 _ ?side1 ?side2 A23.out).mono ?_); (case side1 => repeat (first | exact (Kd.R_reads' HO522.out).2.2 | (with_reducible refine Kd.C_alloc ?_ _) | (with_reducible refine Kd.C_drewN ?_ _) | (with_reducible refine Kd.C_drew ?_))); (case side2 => exact (Kd.R_reads' HO522.out).2.1); rintro e w' ⟨rfl, ⟨nd, rfl⟩⟩; (try exact dd_))))
    go_meet
    case rel => exact ⟨_, ((t524 != 0)), b5_, H', ⟨(by have := HJ5.out; first | omega | exact Nat.le_refl _)⟩, ⟨(by (with_reducible repeat (first | apply Kd.R_alloc | apply Kd.R_drewN | apply Kd.R_drew)); exact HO522.out)⟩, ⟨b12_⟩, ⟨b1_⟩⟩
  clear HC19
  try clear c1
  try clear c2
  try clear p2
  try clear p6
  try clear c7
  try clear c9
  try clear c14
  try clear c17
  try clear c17b0
  try clear c17b1
  try clear c22
  try clear c22b0
  try clear c22b1
  try clear hcz10_0
  try clear hcz10_1
  try clear hcz12_0
  try clear hcz12_1
  try clear hcz20_0
  try clear hcz20_1
  try clear hfz10_0
  try clear hfz10_1
  try clear hfz12_0
  try clear hfz12_1
  try clear hfz20_0
  try clear hfz20_1
  try clear p2
  obtain ⟨kq, x64_18, rfl, HA, HJ18, HO_13, BK517, HB⟩ := hcut
  cases kq with
  | zero => exact absurd HA.out (by simp [forecourtlaw09_PoleFair.j1])
  | succ kj18 => ?_
  as_aux_lemma =>
  have H := HA.out
  clear HA
  simp only [forecourtlaw09_PoleFair.j1] at H
  by_cases c25 : x64_18 = true
  · subst c25
    have H1 : (some false) = some r := by rw [if_pos rfl] at H; exact H
    clear H
    have H := H1
    clear H1
    obtain rfl := Option.some.inj H
    go_wp2
    repeat (go_quiet (fail); try go_wp2)
    go_ret
    exact ⟨b4_, b1_⟩
  replace c25 := Bool.eq_false_iff.mpr c25
  subst c25
  have H1 : ((pole_Price.f kj18 t520 (Int.tmod (wrap64 (a3)) 2001)).bind fun bt525 => ((pole_Cheat.f l0 t520 a1_0 a1_1).bind fun bt527 => ((pole_Fair.f l0 a1_0 a1_1 (Int.tmod (wrap64 (a3)) 2001)).bind fun bt529 => (if bt525.2 = 0 then (if bt527.2 = 5 then (if bt529.2 = 0 then ((forecourtref09_At.f kj18 l0 (wrap64 ((Int.tmod (wrap64 (a3)) 2001) + (wrap64 (a1_0 + (Int.tmod (wrap64 (a4)) (wrap64 ((wrap64 (a1_1 - a1_0)) + 1)))))))).bind fun t531 => (if bt525.1 > t531 then (forecourtlaw09_PoleFair.j2 kj18 l0 l2 (Int.tmod (wrap64 (a3)) 2001) t520 bt525.1 bt529.1 true a1_0 a1_1) else (forecourtlaw09_PoleFair.j2 kj18 l0 l2 (Int.tmod (wrap64 (a3)) 2001) t520 bt525.1 bt529.1 (bt525.1 != bt529.1) a1_0 a1_1))) else (forecourtlaw09_PoleFair.j2 kj18 l0 l2 (Int.tmod (wrap64 (a3)) 2001) t520 bt525.1 bt529.1 true a1_0 a1_1)) else (forecourtlaw09_PoleFair.j2 kj18 l0 l2 (Int.tmod (wrap64 (a3)) 2001) t520 bt525.1 bt529.1 true a1_0 a1_1)) else (forecourtlaw09_PoleFair.j2 kj18 l0 l2 (Int.tmod (wrap64 (a3)) 2001) t520 bt525.1 bt529.1 true a1_0 a1_1))))) = some r := by rw [if_neg (show ¬ (false = true) by decide)] at H; exact H
  clear H
  have H := H1
  clear H1
  replace H := Option.bind_eq_some_iff.mp H
  obtain ⟨⟨t525, t526⟩, A260, H⟩ := H
  replace H : ((pole_Cheat.f l0 t520 a1_0 a1_1).bind fun bt527 => ((pole_Fair.f l0 a1_0 a1_1 (Int.tmod (wrap64 (a3)) 2001)).bind fun bt529 => (if t526 = 0 then (if bt527.2 = 5 then (if bt529.2 = 0 then ((forecourtref09_At.f kj18 l0 (wrap64 ((Int.tmod (wrap64 (a3)) 2001) + (wrap64 (a1_0 + (Int.tmod (wrap64 (a4)) (wrap64 ((wrap64 (a1_1 - a1_0)) + 1)))))))).bind fun t531 => (if t525 > t531 then (forecourtlaw09_PoleFair.j2 kj18 l0 l2 (Int.tmod (wrap64 (a3)) 2001) t520 t525 bt529.1 true a1_0 a1_1) else (forecourtlaw09_PoleFair.j2 kj18 l0 l2 (Int.tmod (wrap64 (a3)) 2001) t520 t525 bt529.1 (t525 != bt529.1) a1_0 a1_1))) else (forecourtlaw09_PoleFair.j2 kj18 l0 l2 (Int.tmod (wrap64 (a3)) 2001) t520 t525 bt529.1 true a1_0 a1_1)) else (forecourtlaw09_PoleFair.j2 kj18 l0 l2 (Int.tmod (wrap64 (a3)) 2001) t520 t525 bt529.1 true a1_0 a1_1)) else (forecourtlaw09_PoleFair.j2 kj18 l0 l2 (Int.tmod (wrap64 (a3)) 2001) t520 t525 bt529.1 true a1_0 a1_1)))) = some r := H
  have A26 := Aside0.mk A260
  clear A260
  replace H := Option.bind_eq_some_iff.mp H
  obtain ⟨⟨t527, t528⟩, A270, H⟩ := H
  replace H : ((pole_Fair.f l0 a1_0 a1_1 (Int.tmod (wrap64 (a3)) 2001)).bind fun bt529 => (if t526 = 0 then (if t528 = 5 then (if bt529.2 = 0 then ((forecourtref09_At.f kj18 l0 (wrap64 ((Int.tmod (wrap64 (a3)) 2001) + (wrap64 (a1_0 + (Int.tmod (wrap64 (a4)) (wrap64 ((wrap64 (a1_1 - a1_0)) + 1)))))))).bind fun t531 => (if t525 > t531 then (forecourtlaw09_PoleFair.j2 kj18 l0 l2 (Int.tmod (wrap64 (a3)) 2001) t520 t525 bt529.1 true a1_0 a1_1) else (forecourtlaw09_PoleFair.j2 kj18 l0 l2 (Int.tmod (wrap64 (a3)) 2001) t520 t525 bt529.1 (t525 != bt529.1) a1_0 a1_1))) else (forecourtlaw09_PoleFair.j2 kj18 l0 l2 (Int.tmod (wrap64 (a3)) 2001) t520 t525 bt529.1 true a1_0 a1_1)) else (forecourtlaw09_PoleFair.j2 kj18 l0 l2 (Int.tmod (wrap64 (a3)) 2001) t520 t525 bt529.1 true a1_0 a1_1)) else (forecourtlaw09_PoleFair.j2 kj18 l0 l2 (Int.tmod (wrap64 (a3)) 2001) t520 t525 bt529.1 true a1_0 a1_1))) = some r := H
  have A27 := Aside0.mk A270
  clear A270
  replace H := Option.bind_eq_some_iff.mp H
  obtain ⟨⟨t529, t530⟩, A280, H⟩ := H
  replace H : (if t526 = 0 then (if t528 = 5 then (if t530 = 0 then ((forecourtref09_At.f kj18 l0 (wrap64 ((Int.tmod (wrap64 (a3)) 2001) + (wrap64 (a1_0 + (Int.tmod (wrap64 (a4)) (wrap64 ((wrap64 (a1_1 - a1_0)) + 1)))))))).bind fun t531 => (if t525 > t531 then (forecourtlaw09_PoleFair.j2 kj18 l0 l2 (Int.tmod (wrap64 (a3)) 2001) t520 t525 t529 true a1_0 a1_1) else (forecourtlaw09_PoleFair.j2 kj18 l0 l2 (Int.tmod (wrap64 (a3)) 2001) t520 t525 t529 (t525 != t529) a1_0 a1_1))) else (forecourtlaw09_PoleFair.j2 kj18 l0 l2 (Int.tmod (wrap64 (a3)) 2001) t520 t525 t529 true a1_0 a1_1)) else (forecourtlaw09_PoleFair.j2 kj18 l0 l2 (Int.tmod (wrap64 (a3)) 2001) t520 t525 t529 true a1_0 a1_1)) else (forecourtlaw09_PoleFair.j2 kj18 l0 l2 (Int.tmod (wrap64 (a3)) 2001) t520 t525 t529 true a1_0 a1_1)) = some r := H
  have A28 := Aside0.mk A280
  clear A280
  have HC29 := Aside0.mk H
  clear H
  obtain ⟨Ao30, co30, eo30⟩ := Kd.R_slice HO_13.out
  subst eo30
  go_upto_region 11 with (first | (go_at_call 16; (with_reducible refine (pole_Price.calls kj18 _ _ t520 (Int.tmod (wrap64 (a3)) 2001) t525 t526 _ ?side1 ?side2 A26.out).mono ?_); (case side1 => repeat (first | exact (Kd.R_reads' HO_13.out).2.2 | (with_reducible refine Kd.C_alloc ?_ _) | (with_reducible refine Kd.C_drewN ?_ _) | (with_reducible refine Kd.C_drew ?_))); (case side2 => exact (Kd.R_reads' HO_13.out).2.1); rintro e w31 ⟨rfl, hb⟩; replace HO_13 := Aside0.mk (Kd.R_below b9_ hb); replace BK517 := bk_ BK517 hb; replace HB := hB_ HB hb; (try clear hb); obtain ⟨hcz32_0, hcz32_1, hfz32_0, hfz32_1⟩ := cz2_ BK517.out) | (go_at_call 22; (with_reducible refine (pole_Cheat.calls _ _ l0 _ _ t520 a1_0 a1_1 t527 t528 _ ?side1 ?side2 ?side3 ?side4 A27.out).mono ?_); (case side1 => repeat (first | exact (Kd.C_below HR0.out HB.out) | (with_reducible refine Kd.C_alloc ?_ _) | (with_reducible refine Kd.C_drewN ?_ _) | (with_reducible refine Kd.C_drew ?_))); (case side2 => exact HC0.out); (case side3 => repeat (first | exact (Kd.R_reads' HO_13.out).2.2 | (with_reducible refine Kd.C_alloc ?_ _) | (with_reducible refine Kd.C_drewN ?_ _) | (with_reducible refine Kd.C_drew ?_))); (case side4 => exact (Kd.R_reads' HO_13.out).2.1); rintro e w33 ⟨rfl, hb⟩; replace HO_13 := Aside0.mk (Kd.R_below b9_ hb); replace BK517 := bk_ BK517 hb; replace HB := hB_ HB hb; (try clear hb); obtain ⟨hcz34_0, hcz34_1, hfz34_0, hfz34_1⟩ := cz2_ BK517.out) | (go_at_call 18; (with_reducible refine (pole_Fair.calls _ _ l0 a1_0 a1_1 (Int.tmod (wrap64 (a3)) 2001) t529 t530 _ ?side1 ?side2 A28.out).mono ?_); (case side1 => repeat (first | exact (Kd.C_below HR0.out HB.out) | (with_reducible refine Kd.C_alloc ?_ _) | (with_reducible refine Kd.C_drewN ?_ _) | (with_reducible refine Kd.C_drew ?_))); (case side2 => exact HC0.out); rintro e w35 ⟨rfl, hb⟩; replace HO_13 := Aside0.mk (Kd.R_below b9_ hb); replace BK517 := bk_ BK517 hb; replace HB := hB_ HB hb; (try clear hb)))
  repeat (go_quiet (first | (go_at_call 16; (with_reducible refine (pole_Price.calls kj18 _ _ t520 (Int.tmod (wrap64 (a3)) 2001) t525 t526 _ ?side1 ?side2 A26.out).mono ?_); (case side1 => repeat (first | exact (Kd.R_reads' HO_13.out).2.2 | (with_reducible refine Kd.C_alloc ?_ _) | (with_reducible refine Kd.C_drewN ?_ _) | (with_reducible refine Kd.C_drew ?_))); (case side2 => exact (Kd.R_reads' HO_13.out).2.1); rintro e w31 ⟨rfl, hb⟩; replace HO_13 := Aside0.mk (Kd.R_below b9_ hb); replace BK517 := bk_ BK517 hb; replace HB := hB_ HB hb; (try clear hb); obtain ⟨hcz32_0, hcz32_1, hfz32_0, hfz32_1⟩ := cz2_ BK517.out) | (go_at_call 22; (with_reducible refine (pole_Cheat.calls _ _ l0 _ _ t520 a1_0 a1_1 t527 t528 _ ?side1 ?side2 ?side3 ?side4 A27.out).mono ?_); (case side1 => repeat (first | exact (Kd.C_below HR0.out HB.out) | (with_reducible refine Kd.C_alloc ?_ _) | (with_reducible refine Kd.C_drewN ?_ _) | (with_reducible refine Kd.C_drew ?_))); (case side2 => exact HC0.out); (case side3 => repeat (first | exact (Kd.R_reads' HO_13.out).2.2 | (with_reducible refine Kd.C_alloc ?_ _) | (with_reducible refine Kd.C_drewN ?_ _) | (with_reducible refine Kd.C_drew ?_))); (case side4 => exact (Kd.R_reads' HO_13.out).2.1); rintro e w33 ⟨rfl, hb⟩; replace HO_13 := Aside0.mk (Kd.R_below b9_ hb); replace BK517 := bk_ BK517 hb; replace HB := hB_ HB hb; (try clear hb); obtain ⟨hcz34_0, hcz34_1, hfz34_0, hfz34_1⟩ := cz2_ BK517.out) | (go_at_call 18; (with_reducible refine (pole_Fair.calls _ _ l0 a1_0 a1_1 (Int.tmod (wrap64 (a3)) 2001) t529 t530 _ ?side1 ?side2 A28.out).mono ?_); (case side1 => repeat (first | exact (Kd.C_below HR0.out HB.out) | (with_reducible refine Kd.C_alloc ?_ _) | (with_reducible refine Kd.C_drewN ?_ _) | (with_reducible refine Kd.C_drew ?_))); (case side2 => exact HC0.out); rintro e w35 ⟨rfl, hb⟩; replace HO_13 := Aside0.mk (Kd.R_below b9_ hb); replace BK517 := bk_ BK517 hb; replace HB := hB_ HB hb; (try clear hb))); go_upto_region 11 with (first | (go_at_call 16; (with_reducible refine (pole_Price.calls kj18 _ _ t520 (Int.tmod (wrap64 (a3)) 2001) t525 t526 _ ?side1 ?side2 A26.out).mono ?_); (case side1 => repeat (first | exact (Kd.R_reads' HO_13.out).2.2 | (with_reducible refine Kd.C_alloc ?_ _) | (with_reducible refine Kd.C_drewN ?_ _) | (with_reducible refine Kd.C_drew ?_))); (case side2 => exact (Kd.R_reads' HO_13.out).2.1); rintro e w31 ⟨rfl, hb⟩; replace HO_13 := Aside0.mk (Kd.R_below b9_ hb); replace BK517 := bk_ BK517 hb; replace HB := hB_ HB hb; (try clear hb); obtain ⟨hcz32_0, hcz32_1, hfz32_0, hfz32_1⟩ := cz2_ BK517.out) | (go_at_call 22; (with_reducible refine (pole_Cheat.calls _ _ l0 _ _ t520 a1_0 a1_1 t527 t528 _ ?side1 ?side2 ?side3 ?side4 A27.out).mono ?_); (case side1 => repeat (first | exact (Kd.C_below HR0.out HB.out) | (with_reducible refine Kd.C_alloc ?_ _) | (with_reducible refine Kd.C_drewN ?_ _) | (with_reducible refine Kd.C_drew ?_))); (case side2 => exact HC0.out); (case side3 => repeat (first | exact (Kd.R_reads' HO_13.out).2.2 | (with_reducible refine Kd.C_alloc ?_ _) | (with_reducible refine Kd.C_drewN ?_ _) | (with_reducible refine Kd.C_drew ?_))); (case side4 => exact (Kd.R_reads' HO_13.out).2.1); rintro e w33 ⟨rfl, hb⟩; replace HO_13 := Aside0.mk (Kd.R_below b9_ hb); replace BK517 := bk_ BK517 hb; replace HB := hB_ HB hb; (try clear hb); obtain ⟨hcz34_0, hcz34_1, hfz34_0, hfz34_1⟩ := cz2_ BK517.out) | (go_at_call 18; (with_reducible refine (pole_Fair.calls _ _ l0 a1_0 a1_1 (Int.tmod (wrap64 (a3)) 2001) t529 t530 _ ?side1 ?side2 A28.out).mono ?_); (case side1 => repeat (first | exact (Kd.C_below HR0.out HB.out) | (with_reducible refine Kd.C_alloc ?_ _) | (with_reducible refine Kd.C_drewN ?_ _) | (with_reducible refine Kd.C_drew ?_))); (case side2 => exact HC0.out); rintro e w35 ⟨rfl, hb⟩; replace HO_13 := Aside0.mk (Kd.R_below b9_ hb); replace BK517 := bk_ BK517 hb; replace HB := hB_ HB hb; (try clear hb))))
  (try simp only [Act.put, List.setIfInBounds_toArray, List.set_cons_zero, List.set_cons_succ])
  go_cut [108] (fun v108 wc => ∃ (kq : Nat) (x108_28 : Bool), v108 = .bool x108_28 ∧ Aside0 (forecourtlaw09_PoleFair.j2 kq l0 l2 (Int.tmod (wrap64 (a3)) 2001) t520 t525 t529 x108_28 a1_0 a1_1 = some r) ∧ Aside0 (kq ≤ kj18) ∧ Aside0 (Kd.R k54 54 wc w.heap.size (fun _ => True) (.slice Ao30 t520.length co30) t520) ∧ Aside0 (wc.heap[gb517]? = some (.cells #[.int .i64 a1_0, .int .i64 a1_1] 24 (0, 0))) ∧ Aside0 (Below w.heap.size w wc))
  case first => as_aux_lemma =>
    have H := HC29.out
    clear HC29
    by_cases c36 : t526 = 0
    rotate_left
    · rw [if_neg c36] at H
      have c36b0 : (t526 == 0) = false := beq_eq_false_iff_ne.mpr c36
      have c36b1 : (t526 != 0) = true := bne_iff_ne.mpr c36
      (first | rw [c36b0] | (simp only [i64_w, i32_w]; rw [c36b0]) | skip)
      have H' := Aside0.mk H
      clear H
      go_wp2
      repeat (go_quiet (fail); try go_wp2)
      go_meet
      case rel => exact ⟨_, (true), b5_, H', ⟨(by have := HJ5.out; have := HJ18.out; first | omega | exact Nat.le_refl _)⟩, ⟨b9_⟩, ⟨b12_⟩, ⟨b1_⟩⟩
    rw [if_pos c36] at H
    have c36b0 : (t526 == 0) = true := beq_iff_eq.mpr c36
    have c36b1 : (t526 != 0) = false := bne_eq_false_iff_eq.mpr c36
    clear c36
    (first | rw [c36b0] | (simp only [i64_w, i32_w]; rw [c36b0]) | skip)
    by_cases c37 : t528 = 5
    rotate_left
    · rw [if_neg c37] at H
      have c37b0 : (t528 == 5) = false := beq_eq_false_iff_ne.mpr c37
      have c37b1 : (t528 != 5) = true := bne_iff_ne.mpr c37
      have H' := Aside0.mk H
      clear H
      go_wp2
      repeat (go_quiet (fail); try go_wp2)
      go_meet
      case rel => exact ⟨_, (true), b5_, H', ⟨(by have := HJ5.out; have := HJ18.out; first | omega | exact Nat.le_refl _)⟩, ⟨b9_⟩, ⟨b12_⟩, ⟨b1_⟩⟩
    rw [if_pos c37] at H
    have c37b0 : (t528 == 5) = true := beq_iff_eq.mpr c37
    have c37b1 : (t528 != 5) = false := bne_eq_false_iff_eq.mpr c37
    clear c37
    by_cases c38 : t530 = 0
    rotate_left
    · rw [if_neg c38] at H
      have c38b0 : (t530 == 0) = false := beq_eq_false_iff_ne.mpr c38
      have c38b1 : (t530 != 0) = true := bne_iff_ne.mpr c38
      have H' := Aside0.mk H
      clear H
      go_wp2
      repeat (go_quiet (fail); try go_wp2)
      go_meet
      case rel => exact ⟨_, (true), b5_, H', ⟨(by have := HJ5.out; have := HJ18.out; first | omega | exact Nat.le_refl _)⟩, ⟨b9_⟩, ⟨b12_⟩, ⟨b1_⟩⟩
    rw [if_pos c38] at H
    have c38b0 : (t530 == 0) = true := beq_iff_eq.mpr c38
    have c38b1 : (t530 != 0) = false := bne_eq_false_iff_eq.mpr c38
    clear c38
    replace H := Option.bind_eq_some_iff.mp H
    obtain ⟨t531, A390, H⟩ := H
    replace H : (if t525 > t531 then (forecourtlaw09_PoleFair.j2 kj18 l0 l2 (Int.tmod (wrap64 (a3)) 2001) t520 t525 t529 true a1_0 a1_1) else (forecourtlaw09_PoleFair.j2 kj18 l0 l2 (Int.tmod (wrap64 (a3)) 2001) t520 t525 t529 (t525 != t529) a1_0 a1_1)) = some r := H
    have A39 := Aside0.mk A390
    clear A390
    by_cases c40 : t525 > t531
    · rw [if_pos c40] at H
      have c40b0 : decide (t531 < t525) = true := decide_eq_true c40
      clear c40
      have H' := Aside0.mk H
      clear H
      go_wp2_with (first | (go_at_call 36; (with_reducible refine (forecourtref09_At.calls kj18 _ _ l0 (wrap64 ((Int.tmod (wrap64 (a3)) 2001) + (wrap64 (a1_0 + (Int.tmod (wrap64 (a4)) (wrap64 ((wrap64 (a1_1 - a1_0)) + 1))))))) t531 _ ?side1 ?side2 A39.out).mono ?_); (case side1 => repeat (first | exact (Kd.C_below HR0.out HB.out) | (with_reducible refine Kd.C_alloc ?_ _) | (with_reducible refine Kd.C_drewN ?_ _) | (with_reducible refine Kd.C_drew ?_))); (case side2 => exact HC0.out); rintro e w' ⟨rfl, ⟨nd, rfl⟩⟩; (try exact dd_)))
      repeat (go_quiet (first | (go_at_call 36; (with_reducible refine (forecourtref09_At.calls kj18 _ _ l0 (wrap64 ((Int.tmod (wrap64 (a3)) 2001) + (wrap64 (a1_0 + (Int.tmod (wrap64 (a4)) (wrap64 ((wrap64 (a1_1 - a1_0)) + 1))))))) t531 _ ?side1 ?side2 A39.out).mono ?_); (case side1 => repeat (first | exact (Kd.C_below HR0.out HB.out) | (with_reducible refine Kd.C_alloc ?_ _) | (with_reducible refine Kd.C_drewN ?_ _) | (with_reducible refine Kd.C_drew ?_))); (case side2 => exact HC0.out); rintro e w' ⟨rfl, ⟨nd, rfl⟩⟩; (try exact dd_))); try go_wp2_with (first | (go_at_call 36; (with_reducible refine (forecourtref09_At.calls kj18 _ _ l0 (wrap64 ((Int.tmod (wrap64 (a3)) 2001) + (wrap64 (a1_0 + (Int.tmod (wrap64 (a4)) (wrap64 ((wrap64 (a1_1 - a1_0)) + 1))))))) t531 _ ?side1 ?side2 A39.out).mono ?_); (case side1 => repeat (first | exact (Kd.C_below HR0.out HB.out) | (with_reducible refine Kd.C_alloc ?_ _) | (with_reducible refine Kd.C_drewN ?_ _) | (with_reducible refine Kd.C_drew ?_))); (case side2 => exact HC0.out); rintro e w' ⟨rfl, ⟨nd, rfl⟩⟩; (try exact dd_))))
      go_meet
      case rel => exact ⟨_, (true), b5_, H', ⟨(by have := HJ5.out; have := HJ18.out; first | omega | exact Nat.le_refl _)⟩, ⟨b9_⟩, ⟨b12_⟩, ⟨b1_⟩⟩
    rw [if_neg c40] at H
    have c40b0 : decide (t531 < t525) = false := decide_eq_false c40
    clear c40
    have H' := Aside0.mk H
    clear H
    go_wp2_with (first | (go_at_call 36; (with_reducible refine (forecourtref09_At.calls kj18 _ _ l0 (wrap64 ((Int.tmod (wrap64 (a3)) 2001) + (wrap64 (a1_0 + (Int.tmod (wrap64 (a4)) (wrap64 ((wrap64 (a1_1 - a1_0)) + 1))))))) t531 _ ?side1 ?side2 A39.out).mono ?_); (case side1 => repeat (first | exact (Kd.C_below HR0.out HB.out) | (with_reducible refine Kd.C_alloc ?_ _) | (with_reducible refine Kd.C_drewN ?_ _) | (with_reducible refine Kd.C_drew ?_))); (case side2 => exact HC0.out); rintro e w' ⟨rfl, ⟨nd, rfl⟩⟩; (try exact dd_)))
    repeat (go_quiet (first | (go_at_call 36; (with_reducible refine (forecourtref09_At.calls kj18 _ _ l0 (wrap64 ((Int.tmod (wrap64 (a3)) 2001) + (wrap64 (a1_0 + (Int.tmod (wrap64 (a4)) (wrap64 ((wrap64 (a1_1 - a1_0)) + 1))))))) t531 _ ?side1 ?side2 A39.out).mono ?_); (case side1 => repeat (first | exact (Kd.C_below HR0.out HB.out) | (with_reducible refine Kd.C_alloc ?_ _) | (with_reducible refine Kd.C_drewN ?_ _) | (with_reducible refine Kd.C_drew ?_))); (case side2 => exact HC0.out); rintro e w' ⟨rfl, ⟨nd, rfl⟩⟩; (try exact dd_))); try go_wp2_with (first | (go_at_call 36; (with_reducible refine (forecourtref09_At.calls kj18 _ _ l0 (wrap64 ((Int.tmod (wrap64 (a3)) 2001) + (wrap64 (a1_0 + (Int.tmod (wrap64 (a4)) (wrap64 ((wrap64 (a1_1 - a1_0)) + 1))))))) t531 _ ?side1 ?side2 A39.out).mono ?_); (case side1 => repeat (first | exact (Kd.C_below HR0.out HB.out) | (with_reducible refine Kd.C_alloc ?_ _) | (with_reducible refine Kd.C_drewN ?_ _) | (with_reducible refine Kd.C_drew ?_))); (case side2 => exact HC0.out); rintro e w' ⟨rfl, ⟨nd, rfl⟩⟩; (try exact dd_))))
    go_meet
    case rel => exact ⟨_, ((t525 != t529)), b5_, H', ⟨(by have := HJ5.out; have := HJ18.out; first | omega | exact Nat.le_refl _)⟩, ⟨b9_⟩, ⟨b12_⟩, ⟨b1_⟩⟩
  clear HC29
  try clear c1
  try clear c2
  try clear p2
  try clear c3
  try clear c4
  try clear p6
  try clear c7
  try clear c9
  try clear c14
  try clear c17
  try clear c17b0
  try clear c17b1
  try clear c22
  try clear c22b0
  try clear c22b1
  try clear c25
  try clear c36
  try clear c36b0
  try clear c36b1
  try clear c37
  try clear c37b0
  try clear c37b1
  try clear c38
  try clear c38b0
  try clear c38b1
  try clear c40
  try clear c40b0
  try clear hcz10_0
  try clear hcz10_1
  try clear hcz12_0
  try clear hcz12_1
  try clear hcz20_0
  try clear hcz20_1
  try clear hcz32_0
  try clear hcz32_1
  try clear hcz34_0
  try clear hcz34_1
  try clear hfz10_0
  try clear hfz10_1
  try clear hfz12_0
  try clear hfz12_1
  try clear hfz20_0
  try clear hfz20_1
  try clear hfz32_0
  try clear hfz32_1
  try clear hfz34_0
  try clear hfz34_1
  try clear p2
  try clear p6
  obtain ⟨kq, x108_28, rfl, HA, HJ28, HO_13, BK517, HB⟩ := hcut
  cases kq with
  | zero => exact absurd HA.out (by simp [forecourtlaw09_PoleFair.j2])
  | succ kj28 => ?_
  as_aux_lemma =>
  have H := HA.out
  clear HA
  simp only [forecourtlaw09_PoleFair.j2] at H
  by_cases c41 : x108_28 = true
  · subst c41
    have H1 : (some false) = some r := by rw [if_pos rfl] at H; exact H
    clear H
    have H := H1
    clear H1
    obtain rfl := Option.some.inj H
    go_wp2
    repeat (go_quiet (fail); try go_wp2)
    go_ret
    exact ⟨b4_, b1_⟩
  replace c41 := Bool.eq_false_iff.mpr c41
  subst c41
  have H1 : (forecourtlaw09_PoleFair.l0 kj28 l0 l2 (Int.tmod (wrap64 (a3)) 2001) t520 t525 t529 1 a1_0 a1_1) = some r := by rw [if_neg (show ¬ (false = true) by decide)] at H; exact H
  clear H
  have H := H1
  clear H1
  have H' := Aside0.mk H
  clear H
  go_wp2
  repeat (go_quiet (fail); try go_wp2)
  go_loopg [21] kj28 (fun kq v21 w' => ∃ (x21_4 : Int), v21 = .int .i64 x21_4 ∧ Aside0 (forecourtlaw09_PoleFair.l0 kq l0 l2 (Int.tmod (wrap64 (a3)) 2001) t520 t525 t529 x21_4 a1_0 a1_1 = some r) ∧ Aside0 (kq ≤ kj28) ∧ Aside0 (Kd.R k54 54 w' w.heap.size (fun _ => True) (.slice Ao30 t520.length co30) t520) ∧ Aside0 (w'.heap[gb517]? = some (.cells #[.int .i64 a1_0, .int .i64 a1_1] 24 (0, 0))) ∧ Aside0 (Below w.heap.size w w'))
  case atStart => exact ⟨(1), b5_, H', ⟨Nat.le_refl _⟩, ⟨b9_⟩, ⟨b12_⟩, ⟨b1_⟩⟩
  clear H'
  try clear c1
  try clear c2
  try clear p2
  try clear c3
  try clear c4
  try clear p6
  try clear c7
  try clear c9
  try clear c14
  try clear c17
  try clear c17b0
  try clear c17b1
  try clear c22
  try clear c22b0
  try clear c22b1
  try clear c25
  try clear c36
  try clear c36b0
  try clear c36b1
  try clear c37
  try clear c37b0
  try clear c37b1
  try clear c38
  try clear c38b0
  try clear c38b1
  try clear c40
  try clear c40b0
  try clear c41
  try clear hcz10_0
  try clear hcz10_1
  try clear hcz12_0
  try clear hcz12_1
  try clear hcz20_0
  try clear hcz20_1
  try clear hcz32_0
  try clear hcz32_1
  try clear hcz34_0
  try clear hcz34_1
  try clear hfz10_0
  try clear hfz10_1
  try clear hfz12_0
  try clear hfz12_1
  try clear hfz20_0
  try clear hfz20_1
  try clear hfz32_0
  try clear hfz32_1
  try clear hfz34_0
  try clear hfz34_1
  try clear p2
  try clear p6
  obtain ⟨x21_4, rfl, HA, HK4, HO_13, BK517, HB⟩ := hrel
  cases gk with
  | zero => exact absurd HA.out (by simp [forecourtlaw09_PoleFair.l0])
  | succ k4 => ?_
  as_aux_lemma =>
  have H := HA.out
  clear HA
  simp only [forecourtlaw09_PoleFair.l0] at H
  by_cases c42 : x21_4 < (t520.length : Int)
  · rw [if_pos c42] at H
    have c42b0 : decide (x21_4 < (t520.length : Int)) = true := decide_eq_true c42
    clear c42
    by_cases c43 : 0 ≤ x21_4
    rotate_left
    · rw [if_neg c43] at H
      exact absurd H (by simp)
    rw [if_pos c43] at H
    have c43b0 : decide (0 ≤ x21_4) = true := decide_eq_true c43
    clear c43
    obtain ⟨ji44, hji44⟩ : ∃ j_ : Int, (wrap64 (x21_4 - 1)) = j_ := ⟨_, rfl⟩
    replace H : (if 0 ≤ (ji44) then (if (ji44) < (t520.length : Int) then (if ((rd_T54 t520 x21_4).f1) = ((rd_T54 t520 (ji44)).f1) then (some false) else (forecourtlaw09_PoleFair.l0 k4 l0 l2 (Int.tmod (wrap64 (a3)) 2001) t520 t525 t529 (wrap64 (x21_4 + 1)) a1_0 a1_1)) else (none)) else (none)) = some r := by first | (rw [hji44] at H; exact H) | (simp only [hji44] at H ⊢; exact H)
    have hji44w : (IntKind.i64.wrap (x21_4 - 1)) = ji44 := (i64_w _).trans hji44
    by_cases c45 : 0 ≤ (ji44)
    rotate_left
    · rw [if_neg c45] at H
      exact absurd H (by simp)
    rw [if_pos c45] at H
    have c45b0 : decide (0 ≤ (ji44)) = true := decide_eq_true c45
    clear c45
    by_cases c46 : (ji44) < (t520.length : Int)
    rotate_left
    · rw [if_neg c46] at H
      exact absurd H (by simp)
    rw [if_pos c46] at H
    have c46b0 : decide ((ji44) < (t520.length : Int)) = true := decide_eq_true c46
    clear c46
    by_cases c47 : ((rd_T54 t520 x21_4).f1) = ((rd_T54 t520 (ji44)).f1)
    · rw [if_pos c47] at H
      have c47b0 : (((rd_T54 t520 x21_4).f1) == ((rd_T54 t520 (ji44)).f1)) = true := beq_iff_eq.mpr c47
      have c47b1 : (((rd_T54 t520 x21_4).f1) != ((rd_T54 t520 (ji44)).f1)) = false := bne_eq_false_iff_eq.mpr c47
      clear c47
      obtain rfl := Option.some.inj H
      have p532 : 0 ≤ (x21_4 : Int) := of_decide_eq_true b2_
      have q532 : x21_4 < (t520.length : Int) := of_decide_eq_true b2_
      obtain ⟨ad532, e532, hx532_0, hx532_1⟩ := at_T54 (Kd.R_reads' HO_13.out).2.2 x21_4 p532 q532
      cases e532
      replace p532 := eq_true p532
      replace q532 := eq_true q532
      have p533 : 0 ≤ ((ji44) : Int) := of_decide_eq_true b2_
      have q533 : (ji44) < (t520.length : Int) := of_decide_eq_true b2_
      obtain ⟨ad533, e533, hx533_0, hx533_1⟩ := at_T54 (Kd.R_reads' HO_13.out).2.2 (ji44) p533 q533
      obtain rfl : ad532 = ad533 := (by injection e533)
      replace p533 := eq_true p533
      replace q533 := eq_true q533
      go_wp2
      repeat (go_quiet (fail); try go_wp2)
      go_ret
      exact ⟨(by first | rfl | (simp [errW_none, errW_some] <;> rfl) | (simp only [← hji44]; first | rfl | (simp [errW_none, errW_some] <;> rfl)) | (simp [*, errW_none, errW_some] <;> rfl)), b1_⟩
    rw [if_neg c47] at H
    have c47b0 : (((rd_T54 t520 x21_4).f1) == ((rd_T54 t520 (ji44)).f1)) = false := beq_eq_false_iff_ne.mpr c47
    have c47b1 : (((rd_T54 t520 x21_4).f1) != ((rd_T54 t520 (ji44)).f1)) = true := bne_iff_ne.mpr c47
    have H' := Aside0.mk H
    clear H
    have p532 : 0 ≤ (x21_4 : Int) := of_decide_eq_true b2_
    have q532 : x21_4 < (t520.length : Int) := of_decide_eq_true b2_
    obtain ⟨ad532, e532, hx532_0, hx532_1⟩ := at_T54 (Kd.R_reads' HO_13.out).2.2 x21_4 p532 q532
    cases e532
    replace p532 := eq_true p532
    replace q532 := eq_true q532
    have p533 : 0 ≤ ((ji44) : Int) := of_decide_eq_true b2_
    have q533 : (ji44) < (t520.length : Int) := of_decide_eq_true b2_
    obtain ⟨ad533, e533, hx533_0, hx533_1⟩ := at_T54 (Kd.R_reads' HO_13.out).2.2 (ji44) p533 q533
    obtain rfl : ad532 = ad533 := (by injection e533)
    replace p533 := eq_true p533
    replace q533 := eq_true q533
    go_wp2
    repeat (go_quiet (fail); try go_wp2)
    go_roundg k4
    case measure => have := HJ5.out; have := HJ18.out; have := HJ28.out; have := HK4.out; omega
    case rel => exact ⟨(wrap64 (x21_4 + 1)), b5_, H', ⟨(by have := HJ5.out; have := HJ18.out; have := HJ28.out; have := HK4.out; omega)⟩, ⟨b9_⟩, ⟨b12_⟩, ⟨b1_⟩⟩
  rw [if_neg c42] at H
  have c42b0 : decide (x21_4 < (t520.length : Int)) = false := decide_eq_false c42
  clear c42
  replace H := Option.bind_eq_some_iff.mp H
  obtain ⟨t534, A480, H⟩ := H
  replace H : (if t534 = 0 then ((pole_Cheat.f l0 l2 a1_0 a1_1).bind fun bt536 => ((pole_Price.f k4 l2 (Int.tmod (wrap64 (a3)) 2001)).bind fun bt538 => (if bt538.2 = 0 then (if bt536.2 = 0 then (forecourtlaw09_PoleFair.j4 k4 l0 l2 (Int.tmod (wrap64 (a3)) 2001) bt536.2 t525 t529 bt536.1 bt538.1 false a1_0 a1_1) else (forecourtlaw09_PoleFair.j4 k4 l0 l2 (Int.tmod (wrap64 (a3)) 2001) bt536.2 t525 t529 bt536.1 bt538.1 (bt536.2 != 5) a1_0 a1_1)) else (forecourtlaw09_PoleFair.j4 k4 l0 l2 (Int.tmod (wrap64 (a3)) 2001) bt536.2 t525 t529 bt536.1 bt538.1 true a1_0 a1_1)))) else ((forecourtlaw09_Works.f).bind fun t535 => (some t535))) = some r := H
  have A48 := Aside0.mk A480
  clear A480
  by_cases c49 : t534 = 0
  rotate_left
  · rw [if_neg c49] at H
    have c49b0 : (t534 == 0) = false := beq_eq_false_iff_ne.mpr c49
    have c49b1 : (t534 != 0) = true := bne_iff_ne.mpr c49
    replace H := Option.bind_eq_some_iff.mp H
    obtain ⟨t535, A870, H⟩ := H
    replace H : (some t535) = some r := H
    have A87 := Aside0.mk A870
    clear A870
    obtain rfl := Option.some.inj H
    go_wp2_with (first | (go_at_call 21; (with_reducible refine (forecourtref09_CheckSign.calls k4 _ _ l2 t534 _ ?side1 ?side2 A48.out).mono ?_); (case side1 => repeat (first | exact (Kd.C_below HR2.out HB.out) | (with_reducible refine Kd.C_alloc ?_ _) | (with_reducible refine Kd.C_drewN ?_ _) | (with_reducible refine Kd.C_drew ?_))); (case side2 => exact HC2.out); rintro e w' ⟨rfl, ⟨nd, rfl⟩⟩; (try exact dd_)) | (go_at_call 15; (with_reducible refine (forecourtlaw09_Works.calls  t535 _ A87.out).mono ?_); rintro e w88 ⟨rfl, hb⟩; replace HO_13 := Aside0.mk (Kd.R_below b9_ hb); replace BK517 := bk_ BK517 hb; replace HB := hB_ HB hb; (try clear hb)))
    repeat (go_quiet (first | (go_at_call 21; (with_reducible refine (forecourtref09_CheckSign.calls k4 _ _ l2 t534 _ ?side1 ?side2 A48.out).mono ?_); (case side1 => repeat (first | exact (Kd.C_below HR2.out HB.out) | (with_reducible refine Kd.C_alloc ?_ _) | (with_reducible refine Kd.C_drewN ?_ _) | (with_reducible refine Kd.C_drew ?_))); (case side2 => exact HC2.out); rintro e w' ⟨rfl, ⟨nd, rfl⟩⟩; (try exact dd_)) | (go_at_call 15; (with_reducible refine (forecourtlaw09_Works.calls  t535 _ A87.out).mono ?_); rintro e w88 ⟨rfl, hb⟩; replace HO_13 := Aside0.mk (Kd.R_below b9_ hb); replace BK517 := bk_ BK517 hb; replace HB := hB_ HB hb; (try clear hb))); try go_wp2_with (first | (go_at_call 21; (with_reducible refine (forecourtref09_CheckSign.calls k4 _ _ l2 t534 _ ?side1 ?side2 A48.out).mono ?_); (case side1 => repeat (first | exact (Kd.C_below HR2.out HB.out) | (with_reducible refine Kd.C_alloc ?_ _) | (with_reducible refine Kd.C_drewN ?_ _) | (with_reducible refine Kd.C_drew ?_))); (case side2 => exact HC2.out); rintro e w' ⟨rfl, ⟨nd, rfl⟩⟩; (try exact dd_)) | (go_at_call 15; (with_reducible refine (forecourtlaw09_Works.calls  t535 _ A87.out).mono ?_); rintro e w88 ⟨rfl, hb⟩; replace HO_13 := Aside0.mk (Kd.R_below b9_ hb); replace BK517 := bk_ BK517 hb; replace HB := hB_ HB hb; (try clear hb))))
    go_ret
    exact ⟨b4_, b1_⟩
  rw [if_pos c49] at H
  have c49b0 : (t534 == 0) = true := beq_iff_eq.mpr c49
  have c49b1 : (t534 != 0) = false := bne_eq_false_iff_eq.mpr c49
  clear c49
  replace H := Option.bind_eq_some_iff.mp H
  obtain ⟨⟨t536, t537⟩, A500, H⟩ := H
  replace H : ((pole_Price.f k4 l2 (Int.tmod (wrap64 (a3)) 2001)).bind fun bt538 => (if bt538.2 = 0 then (if t537 = 0 then (forecourtlaw09_PoleFair.j4 k4 l0 l2 (Int.tmod (wrap64 (a3)) 2001) t537 t525 t529 t536 bt538.1 false a1_0 a1_1) else (forecourtlaw09_PoleFair.j4 k4 l0 l2 (Int.tmod (wrap64 (a3)) 2001) t537 t525 t529 t536 bt538.1 (t537 != 5) a1_0 a1_1)) else (forecourtlaw09_PoleFair.j4 k4 l0 l2 (Int.tmod (wrap64 (a3)) 2001) t537 t525 t529 t536 bt538.1 true a1_0 a1_1))) = some r := H
  have A50 := Aside0.mk A500
  clear A500
  replace H := Option.bind_eq_some_iff.mp H
  obtain ⟨⟨t538, t539⟩, A510, H⟩ := H
  replace H : (if t539 = 0 then (if t537 = 0 then (forecourtlaw09_PoleFair.j4 k4 l0 l2 (Int.tmod (wrap64 (a3)) 2001) t537 t525 t529 t536 t538 false a1_0 a1_1) else (forecourtlaw09_PoleFair.j4 k4 l0 l2 (Int.tmod (wrap64 (a3)) 2001) t537 t525 t529 t536 t538 (t537 != 5) a1_0 a1_1)) else (forecourtlaw09_PoleFair.j4 k4 l0 l2 (Int.tmod (wrap64 (a3)) 2001) t537 t525 t529 t536 t538 true a1_0 a1_1)) = some r := H
  have A51 := Aside0.mk A510
  clear A510
  have HC52 := Aside0.mk H
  clear H
  go_upto_region 22 with (first | (go_at_call 21; (with_reducible refine (forecourtref09_CheckSign.calls k4 _ _ l2 t534 _ ?side1 ?side2 A48.out).mono ?_); (case side1 => repeat (first | exact (Kd.C_below HR2.out HB.out) | (with_reducible refine Kd.C_alloc ?_ _) | (with_reducible refine Kd.C_drewN ?_ _) | (with_reducible refine Kd.C_drew ?_))); (case side2 => exact HC2.out); rintro e w' ⟨rfl, ⟨nd, rfl⟩⟩; (try exact dd_); obtain ⟨hcz53_0, hcz53_1, hfz53_0, hfz53_1⟩ := cz2_ BK517.out) | (go_at_call 22; (with_reducible refine (pole_Cheat.calls _ _ l0 _ _ l2 a1_0 a1_1 t536 t537 _ ?side1 ?side2 ?side3 ?side4 A50.out).mono ?_); (case side1 => repeat (first | exact (Kd.C_below HR0.out b1_) | (with_reducible refine Kd.C_alloc ?_ _) | (with_reducible refine Kd.C_drewN ?_ _) | (with_reducible refine Kd.C_drew ?_))); (case side2 => exact HC0.out); (case side3 => repeat (first | exact (Kd.C_below HR2.out b1_) | (with_reducible refine Kd.C_alloc ?_ _) | (with_reducible refine Kd.C_drewN ?_ _) | (with_reducible refine Kd.C_drew ?_))); (case side4 => exact HC2.out); rintro e w54 ⟨rfl, hb⟩; replace HO_13 := Aside0.mk (Kd.R_below b9_ hb); replace BK517 := bk_ BK517 hb; replace HB := hB_ HB hb; (try clear hb)) | (go_at_call 16; (with_reducible refine (pole_Price.calls k4 _ _ l2 (Int.tmod (wrap64 (a3)) 2001) t538 t539 _ ?side1 ?side2 A51.out).mono ?_); (case side1 => repeat (first | exact (Kd.C_below HR2.out HB.out) | (with_reducible refine Kd.C_alloc ?_ _) | (with_reducible refine Kd.C_drewN ?_ _) | (with_reducible refine Kd.C_drew ?_))); (case side2 => exact HC2.out); rintro e w55 ⟨rfl, hb⟩; replace HO_13 := Aside0.mk (Kd.R_below b9_ hb); replace BK517 := bk_ BK517 hb; replace HB := hB_ HB hb; (try clear hb)))
  repeat (go_quiet (first | (go_at_call 21; (with_reducible refine (forecourtref09_CheckSign.calls k4 _ _ l2 t534 _ ?side1 ?side2 A48.out).mono ?_); (case side1 => repeat (first | exact (Kd.C_below HR2.out HB.out) | (with_reducible refine Kd.C_alloc ?_ _) | (with_reducible refine Kd.C_drewN ?_ _) | (with_reducible refine Kd.C_drew ?_))); (case side2 => exact HC2.out); rintro e w' ⟨rfl, ⟨nd, rfl⟩⟩; (try exact dd_); obtain ⟨hcz53_0, hcz53_1, hfz53_0, hfz53_1⟩ := cz2_ BK517.out) | (go_at_call 22; (with_reducible refine (pole_Cheat.calls _ _ l0 _ _ l2 a1_0 a1_1 t536 t537 _ ?side1 ?side2 ?side3 ?side4 A50.out).mono ?_); (case side1 => repeat (first | exact (Kd.C_below HR0.out b1_) | (with_reducible refine Kd.C_alloc ?_ _) | (with_reducible refine Kd.C_drewN ?_ _) | (with_reducible refine Kd.C_drew ?_))); (case side2 => exact HC0.out); (case side3 => repeat (first | exact (Kd.C_below HR2.out b1_) | (with_reducible refine Kd.C_alloc ?_ _) | (with_reducible refine Kd.C_drewN ?_ _) | (with_reducible refine Kd.C_drew ?_))); (case side4 => exact HC2.out); rintro e w54 ⟨rfl, hb⟩; replace HO_13 := Aside0.mk (Kd.R_below b9_ hb); replace BK517 := bk_ BK517 hb; replace HB := hB_ HB hb; (try clear hb)) | (go_at_call 16; (with_reducible refine (pole_Price.calls k4 _ _ l2 (Int.tmod (wrap64 (a3)) 2001) t538 t539 _ ?side1 ?side2 A51.out).mono ?_); (case side1 => repeat (first | exact (Kd.C_below HR2.out HB.out) | (with_reducible refine Kd.C_alloc ?_ _) | (with_reducible refine Kd.C_drewN ?_ _) | (with_reducible refine Kd.C_drew ?_))); (case side2 => exact HC2.out); rintro e w55 ⟨rfl, hb⟩; replace HO_13 := Aside0.mk (Kd.R_below b9_ hb); replace BK517 := bk_ BK517 hb; replace HB := hB_ HB hb; (try clear hb))); go_upto_region 22 with (first | (go_at_call 21; (with_reducible refine (forecourtref09_CheckSign.calls k4 _ _ l2 t534 _ ?side1 ?side2 A48.out).mono ?_); (case side1 => repeat (first | exact (Kd.C_below HR2.out HB.out) | (with_reducible refine Kd.C_alloc ?_ _) | (with_reducible refine Kd.C_drewN ?_ _) | (with_reducible refine Kd.C_drew ?_))); (case side2 => exact HC2.out); rintro e w' ⟨rfl, ⟨nd, rfl⟩⟩; (try exact dd_); obtain ⟨hcz53_0, hcz53_1, hfz53_0, hfz53_1⟩ := cz2_ BK517.out) | (go_at_call 22; (with_reducible refine (pole_Cheat.calls _ _ l0 _ _ l2 a1_0 a1_1 t536 t537 _ ?side1 ?side2 ?side3 ?side4 A50.out).mono ?_); (case side1 => repeat (first | exact (Kd.C_below HR0.out b1_) | (with_reducible refine Kd.C_alloc ?_ _) | (with_reducible refine Kd.C_drewN ?_ _) | (with_reducible refine Kd.C_drew ?_))); (case side2 => exact HC0.out); (case side3 => repeat (first | exact (Kd.C_below HR2.out b1_) | (with_reducible refine Kd.C_alloc ?_ _) | (with_reducible refine Kd.C_drewN ?_ _) | (with_reducible refine Kd.C_drew ?_))); (case side4 => exact HC2.out); rintro e w54 ⟨rfl, hb⟩; replace HO_13 := Aside0.mk (Kd.R_below b9_ hb); replace BK517 := bk_ BK517 hb; replace HB := hB_ HB hb; (try clear hb)) | (go_at_call 16; (with_reducible refine (pole_Price.calls k4 _ _ l2 (Int.tmod (wrap64 (a3)) 2001) t538 t539 _ ?side1 ?side2 A51.out).mono ?_); (case side1 => repeat (first | exact (Kd.C_below HR2.out HB.out) | (with_reducible refine Kd.C_alloc ?_ _) | (with_reducible refine Kd.C_drewN ?_ _) | (with_reducible refine Kd.C_drew ?_))); (case side2 => exact HC2.out); rintro e w55 ⟨rfl, hb⟩; replace HO_13 := Aside0.mk (Kd.R_below b9_ hb); replace BK517 := bk_ BK517 hb; replace HB := hB_ HB hb; (try clear hb))))
  (try simp only [Act.put, List.setIfInBounds_toArray, List.set_cons_zero, List.set_cons_succ])
  go_cut [153] (fun v153 wc => ∃ (kq : Nat) (x153_51 : Bool), v153 = .bool x153_51 ∧ Aside0 (forecourtlaw09_PoleFair.j4 kq l0 l2 (Int.tmod (wrap64 (a3)) 2001) t537 t525 t529 t536 t538 x153_51 a1_0 a1_1 = some r) ∧ Aside0 (kq ≤ k4) ∧ Aside0 (wc.heap[gb517]? = some (.cells #[.int .i64 a1_0, .int .i64 a1_1] 24 (0, 0))) ∧ Aside0 (Below w.heap.size w wc))
  case first => as_aux_lemma =>
    have H := HC52.out
    clear HC52
    by_cases c56 : t539 = 0
    rotate_left
    · rw [if_neg c56] at H
      have c56b0 : (t539 == 0) = false := beq_eq_false_iff_ne.mpr c56
      have c56b1 : (t539 != 0) = true := bne_iff_ne.mpr c56
      (first | rw [c56b0] | (simp only [i64_w, i32_w]; rw [c56b0]) | skip)
      have H' := Aside0.mk H
      clear H
      go_wp2
      repeat (go_quiet (fail); try go_wp2)
      go_meet
      case rel => exact ⟨_, (true), b5_, H', ⟨(by have := HJ5.out; have := HJ18.out; have := HJ28.out; have := HK4.out; first | omega | exact Nat.le_refl _)⟩, ⟨b12_⟩, ⟨b1_⟩⟩
    rw [if_pos c56] at H
    have c56b0 : (t539 == 0) = true := beq_iff_eq.mpr c56
    have c56b1 : (t539 != 0) = false := bne_eq_false_iff_eq.mpr c56
    clear c56
    (first | rw [c56b0] | (simp only [i64_w, i32_w]; rw [c56b0]) | skip)
    by_cases c57 : t537 = 0
    rotate_left
    · rw [if_neg c57] at H
      have c57b0 : (t537 == 0) = false := beq_eq_false_iff_ne.mpr c57
      have c57b1 : (t537 != 0) = true := bne_iff_ne.mpr c57
      have H' := Aside0.mk H
      clear H
      go_wp2
      repeat (go_quiet (fail); try go_wp2)
      go_meet
      case rel => exact ⟨_, ((t537 != 5)), b5_, H', ⟨(by have := HJ5.out; have := HJ18.out; have := HJ28.out; have := HK4.out; first | omega | exact Nat.le_refl _)⟩, ⟨b12_⟩, ⟨b1_⟩⟩
    rw [if_pos c57] at H
    have c57b0 : (t537 == 0) = true := beq_iff_eq.mpr c57
    have c57b1 : (t537 != 0) = false := bne_eq_false_iff_eq.mpr c57
    clear c57
    have H' := Aside0.mk H
    clear H
    go_wp2
    repeat (go_quiet (fail); try go_wp2)
    go_meet
    case rel => exact ⟨_, (false), b5_, H', ⟨(by have := HJ5.out; have := HJ18.out; have := HJ28.out; have := HK4.out; first | omega | exact Nat.le_refl _)⟩, ⟨b12_⟩, ⟨b1_⟩⟩
  clear HC52
  try clear c1
  try clear c2
  try clear p2
  try clear c3
  try clear c4
  try clear c5
  try clear p5
  try clear q5
  try clear hx5
  try clear p6
  try clear c7
  try clear c9
  try clear c14
  try clear c17
  try clear c17b0
  try clear c17b1
  try clear c22
  try clear c22b0
  try clear c22b1
  try clear c25
  try clear c36
  try clear c36b0
  try clear c36b1
  try clear c37
  try clear c37b0
  try clear c37b1
  try clear c38
  try clear c38b0
  try clear c38b1
  try clear c40
  try clear c40b0
  try clear c41
  try clear c42
  try clear c42b0
  try clear c43
  try clear c43b0
  try clear c45
  try clear c45b0
  try clear c46
  try clear c46b0
  try clear c47
  try clear c47b0
  try clear c47b1
  try clear c49
  try clear c49b0
  try clear c49b1
  try clear p53
  try clear q53
  try clear hx53
  try clear c56
  try clear c56b0
  try clear c56b1
  try clear c57
  try clear c57b0
  try clear c57b1
  try clear hcz10_0
  try clear hcz10_1
  try clear hcz12_0
  try clear hcz12_1
  try clear hcz20_0
  try clear hcz20_1
  try clear hcz32_0
  try clear hcz32_1
  try clear hcz34_0
  try clear hcz34_1
  try clear hcz53_0
  try clear hcz53_1
  try clear hfz10_0
  try clear hfz10_1
  try clear hfz12_0
  try clear hfz12_1
  try clear hfz20_0
  try clear hfz20_1
  try clear hfz32_0
  try clear hfz32_1
  try clear hfz34_0
  try clear hfz34_1
  try clear hfz53_0
  try clear hfz53_1
  try clear hx532_0
  try clear hx532_1
  try clear hx533_0
  try clear hx533_1
  try clear p2
  try clear p532
  try clear p533
  try clear p6
  try clear q532
  try clear q533
  obtain ⟨kq, x153_51, rfl, HA, HJ51, BK517, HB⟩ := hcut
  cases kq with
  | zero => exact absurd HA.out (by simp [forecourtlaw09_PoleFair.j4])
  | succ kj51 => ?_
  as_aux_lemma =>
  have H := HA.out
  clear HA
  simp only [forecourtlaw09_PoleFair.j4] at H
  by_cases c58 : x153_51 = true
  · subst c58
    have H1 : (some false) = some r := by rw [if_pos rfl] at H; exact H
    clear H
    have H := H1
    clear H1
    obtain rfl := Option.some.inj H
    go_wp2
    repeat (go_quiet (fail); try go_wp2)
    go_ret
    exact ⟨b4_, b1_⟩
  replace c58 := Bool.eq_false_iff.mpr c58
  subst c58
  have H1 : (if t537 = 5 then (if t538 ≤ t525 then ((forecourtlaw09_Works.f).bind fun t540 => (some t540)) else (some false)) else (if t536 < 0 then (forecourtlaw09_PoleFair.j5 kj51 l0 l2 t536 true a1_0 a1_1) else (if t536 > 2000 then (forecourtlaw09_PoleFair.j5 kj51 l0 l2 t536 true a1_0 a1_1) else (if (Int.tmod (wrap64 (a3)) 2001) < t536 then (forecourtlaw09_PoleFair.j5 kj51 l0 l2 t536 (decide (t538 > t529)) a1_0 a1_1) else (forecourtlaw09_PoleFair.j5 kj51 l0 l2 t536 false a1_0 a1_1))))) = some r := by rw [if_neg (show ¬ (false = true) by decide)] at H; exact H
  clear H
  have H := H1
  clear H1
  by_cases c59 : t537 = 5
  · rw [if_pos c59] at H
    have c59b0 : (t537 == 5) = true := beq_iff_eq.mpr c59
    have c59b1 : (t537 != 5) = false := bne_eq_false_iff_eq.mpr c59
    clear c59
    by_cases c60 : t538 ≤ t525
    rotate_left
    · rw [if_neg c60] at H
      have c60b0 : decide (t538 ≤ t525) = false := decide_eq_false c60
      clear c60
      obtain rfl := Option.some.inj H
      go_wp2
      repeat (go_quiet (fail); try go_wp2)
      go_ret
      exact ⟨b4_, b1_⟩
    rw [if_pos c60] at H
    have c60b0 : decide (t538 ≤ t525) = true := decide_eq_true c60
    clear c60
    replace H := Option.bind_eq_some_iff.mp H
    obtain ⟨t540, A610, H⟩ := H
    replace H : (some t540) = some r := H
    have A61 := Aside0.mk A610
    clear A610
    obtain rfl := Option.some.inj H
    go_wp2_with (first | (go_at_call 15; (with_reducible refine (forecourtlaw09_Works.calls  t540 _ A61.out).mono ?_); rintro e w62 ⟨rfl, hb⟩; replace BK517 := bk_ BK517 hb; replace HB := hB_ HB hb; (try clear hb)))
    repeat (go_quiet (first | (go_at_call 15; (with_reducible refine (forecourtlaw09_Works.calls  t540 _ A61.out).mono ?_); rintro e w62 ⟨rfl, hb⟩; replace BK517 := bk_ BK517 hb; replace HB := hB_ HB hb; (try clear hb))); try go_wp2_with (first | (go_at_call 15; (with_reducible refine (forecourtlaw09_Works.calls  t540 _ A61.out).mono ?_); rintro e w62 ⟨rfl, hb⟩; replace BK517 := bk_ BK517 hb; replace HB := hB_ HB hb; (try clear hb))))
    go_ret
    exact ⟨b4_, b1_⟩
  rw [if_neg c59] at H
  have c59b0 : (t537 == 5) = false := beq_eq_false_iff_ne.mpr c59
  have c59b1 : (t537 != 5) = true := bne_iff_ne.mpr c59
  have HC63 := Aside0.mk H
  clear H
  go_upto_region 26 with (fail)
  repeat (go_quiet (fail); go_upto_region 26 with (fail))
  go_cut [177] (fun v177 wc => ∃ (kq : Nat) (x177_62 : Bool), v177 = .bool x177_62 ∧ Aside0 (forecourtlaw09_PoleFair.j5 kq l0 l2 t536 x177_62 a1_0 a1_1 = some r) ∧ Aside0 (kq ≤ kj51) ∧ Aside0 (wc.heap[gb517]? = some (.cells #[.int .i64 a1_0, .int .i64 a1_1] 24 (0, 0))) ∧ Aside0 (Below w.heap.size w wc))
  case first => as_aux_lemma =>
    have H := HC63.out
    clear HC63
    by_cases c64 : t536 < 0
    · rw [if_pos c64] at H
      have c64b0 : decide (t536 < 0) = true := decide_eq_true c64
      clear c64
      (first | rw [c64b0] | (simp only [i64_w, i32_w]; rw [c64b0]) | skip)
      have H' := Aside0.mk H
      clear H
      go_wp2
      repeat (go_quiet (fail); try go_wp2)
      go_meet
      case rel => exact ⟨_, (true), b5_, H', ⟨b34_⟩, ⟨b12_⟩, ⟨b1_⟩⟩
    rw [if_neg c64] at H
    have c64b0 : decide (t536 < 0) = false := decide_eq_false c64
    clear c64
    (first | rw [c64b0] | (simp only [i64_w, i32_w]; rw [c64b0]) | skip)
    by_cases c65 : t536 > 2000
    · rw [if_pos c65] at H
      have c65b0 : decide (2000 < t536) = true := decide_eq_true c65
      clear c65
      have H' := Aside0.mk H
      clear H
      go_wp2
      repeat (go_quiet (fail); try go_wp2)
      go_meet
      case rel => exact ⟨_, (true), b5_, H', ⟨b34_⟩, ⟨b12_⟩, ⟨b1_⟩⟩
    rw [if_neg c65] at H
    have c65b0 : decide (2000 < t536) = false := decide_eq_false c65
    clear c65
    by_cases c66 : (Int.tmod (wrap64 (a3)) 2001) < t536
    rotate_left
    · rw [if_neg c66] at H
      have c66b0 : decide ((Int.tmod (wrap64 (a3)) 2001) < t536) = false := decide_eq_false c66
      clear c66
      have H' := Aside0.mk H
      clear H
      go_wp2
      repeat (go_quiet (fail); try go_wp2)
      go_meet
      case rel => clear c66b0; exact ⟨_, (false), b5_, H', ⟨b34_⟩, ⟨b12_⟩, ⟨b1_⟩⟩
    rw [if_pos c66] at H
    have c66b0 : decide ((Int.tmod (wrap64 (a3)) 2001) < t536) = true := decide_eq_true c66
    clear c66
    have H' := Aside0.mk H
    clear H
    go_wp2
    repeat (go_quiet (fail); try go_wp2)
    go_meet
    case rel => clear c66b0; exact ⟨_, (decide (t538 > t529)), b5_, H', ⟨b34_⟩, ⟨b12_⟩, ⟨b1_⟩⟩
  clear HC63
  try clear c1
  try clear c2
  try clear p2
  try clear c3
  try clear c4
  try clear c5
  try clear p5
  try clear q5
  try clear hx5
  try clear c6
  try clear p6
  try clear c7
  try clear c9
  try clear c14
  try clear c17
  try clear c17b0
  try clear c17b1
  try clear c22
  try clear c22b0
  try clear c22b1
  try clear c25
  try clear c36
  try clear c36b0
  try clear c36b1
  try clear c37
  try clear c37b0
  try clear c37b1
  try clear c38
  try clear c38b0
  try clear c38b1
  try clear c40
  try clear c40b0
  try clear c41
  try clear c42
  try clear c42b0
  try clear c43
  try clear c43b0
  try clear c45
  try clear c45b0
  try clear c46
  try clear c46b0
  try clear c47
  try clear c47b0
  try clear c47b1
  try clear c49
  try clear c49b0
  try clear c49b1
  try clear p53
  try clear q53
  try clear hx53
  try clear c56
  try clear c56b0
  try clear c56b1
  try clear c57
  try clear c57b0
  try clear c57b1
  try clear c58
  try clear c59
  try clear c59b0
  try clear c59b1
  try clear c60
  try clear c60b0
  try clear c64
  try clear c64b0
  try clear p64
  try clear c65
  try clear c65b0
  try clear c66
  try clear c66b0
  try clear hcz10_0
  try clear hcz10_1
  try clear hcz12_0
  try clear hcz12_1
  try clear hcz20_0
  try clear hcz20_1
  try clear hcz32_0
  try clear hcz32_1
  try clear hcz34_0
  try clear hcz34_1
  try clear hcz53_0
  try clear hcz53_1
  try clear hfz10_0
  try clear hfz10_1
  try clear hfz12_0
  try clear hfz12_1
  try clear hfz20_0
  try clear hfz20_1
  try clear hfz32_0
  try clear hfz32_1
  try clear hfz34_0
  try clear hfz34_1
  try clear hfz53_0
  try clear hfz53_1
  try clear hx532_0
  try clear hx532_1
  try clear hx533_0
  try clear hx533_1
  try clear p2
  try clear p5
  try clear p53
  try clear p532
  try clear p533
  try clear p6
  try clear q5
  try clear q53
  try clear q532
  try clear q533
  obtain ⟨kq, x177_62, rfl, HA, HJ62, BK517, HB⟩ := hcut
  cases kq with
  | zero => exact absurd HA.out (by simp [forecourtlaw09_PoleFair.j5])
  | succ kj62 => ?_
  as_aux_lemma =>
  have H := HA.out
  clear HA
  simp only [forecourtlaw09_PoleFair.j5] at H
  by_cases c67 : x177_62 = true
  · subst c67
    have H1 : (some false) = some r := by rw [if_pos rfl] at H; exact H
    clear H
    have H := H1
    clear H1
    obtain rfl := Option.some.inj H
    go_wp2
    repeat (go_quiet (fail); try go_wp2)
    go_ret
    exact ⟨b4_, b1_⟩
  replace c67 := Bool.eq_false_iff.mpr c67
  subst c67
  have H1 : ((pole_Price.f kj62 l2 t536).bind fun bt541 => ((pole_Fair.f l0 a1_0 a1_1 t536).bind fun bt543 => (if bt541.2 = 0 then (if bt543.2 = 0 then (if bt541.1 > bt543.1 then ((forecourtlaw09_Works.f).bind fun t545 => (some t545)) else (some false)) else (some false)) else (some false)))) = some r := by rw [if_neg (show ¬ (false = true) by decide)] at H; exact H
  clear H
  have H := H1
  clear H1
  replace H := Option.bind_eq_some_iff.mp H
  obtain ⟨⟨t541, t542⟩, A680, H⟩ := H
  replace H : ((pole_Fair.f l0 a1_0 a1_1 t536).bind fun bt543 => (if t542 = 0 then (if bt543.2 = 0 then (if t541 > bt543.1 then ((forecourtlaw09_Works.f).bind fun t545 => (some t545)) else (some false)) else (some false)) else (some false))) = some r := H
  have A68 := Aside0.mk A680
  clear A680
  replace H := Option.bind_eq_some_iff.mp H
  obtain ⟨⟨t543, t544⟩, A690, H⟩ := H
  replace H : (if t542 = 0 then (if t544 = 0 then (if t541 > t543 then ((forecourtlaw09_Works.f).bind fun t545 => (some t545)) else (some false)) else (some false)) else (some false)) = some r := H
  have A69 := Aside0.mk A690
  clear A690
  by_cases c70 : t542 = 0
  rotate_left
  · rw [if_neg c70] at H
    have c70b0 : (t542 == 0) = false := beq_eq_false_iff_ne.mpr c70
    have c70b1 : (t542 != 0) = true := bne_iff_ne.mpr c70
    obtain rfl := Option.some.inj H
    go_wp2_with (first | (go_at_call 16; (with_reducible refine (pole_Price.calls kj62 _ _ l2 t536 t541 t542 _ ?side1 ?side2 A68.out).mono ?_); (case side1 => repeat (first | exact (Kd.C_below HR2.out HB.out) | (with_reducible refine Kd.C_alloc ?_ _) | (with_reducible refine Kd.C_drewN ?_ _) | (with_reducible refine Kd.C_drew ?_))); (case side2 => exact HC2.out); rintro e w84 ⟨rfl, hb⟩; replace BK517 := bk_ BK517 hb; replace HB := hB_ HB hb; (try clear hb); obtain ⟨hcz85_0, hcz85_1, hfz85_0, hfz85_1⟩ := cz2_ BK517.out) | (go_at_call 18; (with_reducible refine (pole_Fair.calls _ _ l0 a1_0 a1_1 t536 t543 t544 _ ?side1 ?side2 A69.out).mono ?_); (case side1 => repeat (first | exact (Kd.C_below HR0.out HB.out) | (with_reducible refine Kd.C_alloc ?_ _) | (with_reducible refine Kd.C_drewN ?_ _) | (with_reducible refine Kd.C_drew ?_))); (case side2 => exact HC0.out); rintro e w86 ⟨rfl, hb⟩; replace BK517 := bk_ BK517 hb; replace HB := hB_ HB hb; (try clear hb)))
    repeat (go_quiet (first | (go_at_call 16; (with_reducible refine (pole_Price.calls kj62 _ _ l2 t536 t541 t542 _ ?side1 ?side2 A68.out).mono ?_); (case side1 => repeat (first | exact (Kd.C_below HR2.out HB.out) | (with_reducible refine Kd.C_alloc ?_ _) | (with_reducible refine Kd.C_drewN ?_ _) | (with_reducible refine Kd.C_drew ?_))); (case side2 => exact HC2.out); rintro e w84 ⟨rfl, hb⟩; replace BK517 := bk_ BK517 hb; replace HB := hB_ HB hb; (try clear hb); obtain ⟨hcz85_0, hcz85_1, hfz85_0, hfz85_1⟩ := cz2_ BK517.out) | (go_at_call 18; (with_reducible refine (pole_Fair.calls _ _ l0 a1_0 a1_1 t536 t543 t544 _ ?side1 ?side2 A69.out).mono ?_); (case side1 => repeat (first | exact (Kd.C_below HR0.out HB.out) | (with_reducible refine Kd.C_alloc ?_ _) | (with_reducible refine Kd.C_drewN ?_ _) | (with_reducible refine Kd.C_drew ?_))); (case side2 => exact HC0.out); rintro e w86 ⟨rfl, hb⟩; replace BK517 := bk_ BK517 hb; replace HB := hB_ HB hb; (try clear hb))); try go_wp2_with (first | (go_at_call 16; (with_reducible refine (pole_Price.calls kj62 _ _ l2 t536 t541 t542 _ ?side1 ?side2 A68.out).mono ?_); (case side1 => repeat (first | exact (Kd.C_below HR2.out HB.out) | (with_reducible refine Kd.C_alloc ?_ _) | (with_reducible refine Kd.C_drewN ?_ _) | (with_reducible refine Kd.C_drew ?_))); (case side2 => exact HC2.out); rintro e w84 ⟨rfl, hb⟩; replace BK517 := bk_ BK517 hb; replace HB := hB_ HB hb; (try clear hb); obtain ⟨hcz85_0, hcz85_1, hfz85_0, hfz85_1⟩ := cz2_ BK517.out) | (go_at_call 18; (with_reducible refine (pole_Fair.calls _ _ l0 a1_0 a1_1 t536 t543 t544 _ ?side1 ?side2 A69.out).mono ?_); (case side1 => repeat (first | exact (Kd.C_below HR0.out HB.out) | (with_reducible refine Kd.C_alloc ?_ _) | (with_reducible refine Kd.C_drewN ?_ _) | (with_reducible refine Kd.C_drew ?_))); (case side2 => exact HC0.out); rintro e w86 ⟨rfl, hb⟩; replace BK517 := bk_ BK517 hb; replace HB := hB_ HB hb; (try clear hb))))
    go_ret
    exact ⟨b4_, b1_⟩
  rw [if_pos c70] at H
  have c70b0 : (t542 == 0) = true := beq_iff_eq.mpr c70
  have c70b1 : (t542 != 0) = false := bne_eq_false_iff_eq.mpr c70
  clear c70
  by_cases c71 : t544 = 0
  rotate_left
  · rw [if_neg c71] at H
    have c71b0 : (t544 == 0) = false := beq_eq_false_iff_ne.mpr c71
    have c71b1 : (t544 != 0) = true := bne_iff_ne.mpr c71
    obtain rfl := Option.some.inj H
    go_wp2_with (first | (go_at_call 16; (with_reducible refine (pole_Price.calls kj62 _ _ l2 t536 t541 t542 _ ?side1 ?side2 A68.out).mono ?_); (case side1 => repeat (first | exact (Kd.C_below HR2.out HB.out) | (with_reducible refine Kd.C_alloc ?_ _) | (with_reducible refine Kd.C_drewN ?_ _) | (with_reducible refine Kd.C_drew ?_))); (case side2 => exact HC2.out); rintro e w81 ⟨rfl, hb⟩; replace BK517 := bk_ BK517 hb; replace HB := hB_ HB hb; (try clear hb); obtain ⟨hcz82_0, hcz82_1, hfz82_0, hfz82_1⟩ := cz2_ BK517.out) | (go_at_call 18; (with_reducible refine (pole_Fair.calls _ _ l0 a1_0 a1_1 t536 t543 t544 _ ?side1 ?side2 A69.out).mono ?_); (case side1 => repeat (first | exact (Kd.C_below HR0.out HB.out) | (with_reducible refine Kd.C_alloc ?_ _) | (with_reducible refine Kd.C_drewN ?_ _) | (with_reducible refine Kd.C_drew ?_))); (case side2 => exact HC0.out); rintro e w83 ⟨rfl, hb⟩; replace BK517 := bk_ BK517 hb; replace HB := hB_ HB hb; (try clear hb)))
    repeat (go_quiet (first | (go_at_call 16; (with_reducible refine (pole_Price.calls kj62 _ _ l2 t536 t541 t542 _ ?side1 ?side2 A68.out).mono ?_); (case side1 => repeat (first | exact (Kd.C_below HR2.out HB.out) | (with_reducible refine Kd.C_alloc ?_ _) | (with_reducible refine Kd.C_drewN ?_ _) | (with_reducible refine Kd.C_drew ?_))); (case side2 => exact HC2.out); rintro e w81 ⟨rfl, hb⟩; replace BK517 := bk_ BK517 hb; replace HB := hB_ HB hb; (try clear hb); obtain ⟨hcz82_0, hcz82_1, hfz82_0, hfz82_1⟩ := cz2_ BK517.out) | (go_at_call 18; (with_reducible refine (pole_Fair.calls _ _ l0 a1_0 a1_1 t536 t543 t544 _ ?side1 ?side2 A69.out).mono ?_); (case side1 => repeat (first | exact (Kd.C_below HR0.out HB.out) | (with_reducible refine Kd.C_alloc ?_ _) | (with_reducible refine Kd.C_drewN ?_ _) | (with_reducible refine Kd.C_drew ?_))); (case side2 => exact HC0.out); rintro e w83 ⟨rfl, hb⟩; replace BK517 := bk_ BK517 hb; replace HB := hB_ HB hb; (try clear hb))); try go_wp2_with (first | (go_at_call 16; (with_reducible refine (pole_Price.calls kj62 _ _ l2 t536 t541 t542 _ ?side1 ?side2 A68.out).mono ?_); (case side1 => repeat (first | exact (Kd.C_below HR2.out HB.out) | (with_reducible refine Kd.C_alloc ?_ _) | (with_reducible refine Kd.C_drewN ?_ _) | (with_reducible refine Kd.C_drew ?_))); (case side2 => exact HC2.out); rintro e w81 ⟨rfl, hb⟩; replace BK517 := bk_ BK517 hb; replace HB := hB_ HB hb; (try clear hb); obtain ⟨hcz82_0, hcz82_1, hfz82_0, hfz82_1⟩ := cz2_ BK517.out) | (go_at_call 18; (with_reducible refine (pole_Fair.calls _ _ l0 a1_0 a1_1 t536 t543 t544 _ ?side1 ?side2 A69.out).mono ?_); (case side1 => repeat (first | exact (Kd.C_below HR0.out HB.out) | (with_reducible refine Kd.C_alloc ?_ _) | (with_reducible refine Kd.C_drewN ?_ _) | (with_reducible refine Kd.C_drew ?_))); (case side2 => exact HC0.out); rintro e w83 ⟨rfl, hb⟩; replace BK517 := bk_ BK517 hb; replace HB := hB_ HB hb; (try clear hb))))
    go_ret
    exact ⟨b4_, b1_⟩
  rw [if_pos c71] at H
  have c71b0 : (t544 == 0) = true := beq_iff_eq.mpr c71
  have c71b1 : (t544 != 0) = false := bne_eq_false_iff_eq.mpr c71
  clear c71
  by_cases c72 : t541 > t543
  rotate_left
  · rw [if_neg c72] at H
    have c72b0 : decide (t543 < t541) = false := decide_eq_false c72
    clear c72
    obtain rfl := Option.some.inj H
    go_wp2_with (first | (go_at_call 16; (with_reducible refine (pole_Price.calls kj62 _ _ l2 t536 t541 t542 _ ?side1 ?side2 A68.out).mono ?_); (case side1 => repeat (first | exact (Kd.C_below HR2.out HB.out) | (with_reducible refine Kd.C_alloc ?_ _) | (with_reducible refine Kd.C_drewN ?_ _) | (with_reducible refine Kd.C_drew ?_))); (case side2 => exact HC2.out); rintro e w78 ⟨rfl, hb⟩; replace BK517 := bk_ BK517 hb; replace HB := hB_ HB hb; (try clear hb); obtain ⟨hcz79_0, hcz79_1, hfz79_0, hfz79_1⟩ := cz2_ BK517.out) | (go_at_call 18; (with_reducible refine (pole_Fair.calls _ _ l0 a1_0 a1_1 t536 t543 t544 _ ?side1 ?side2 A69.out).mono ?_); (case side1 => repeat (first | exact (Kd.C_below HR0.out HB.out) | (with_reducible refine Kd.C_alloc ?_ _) | (with_reducible refine Kd.C_drewN ?_ _) | (with_reducible refine Kd.C_drew ?_))); (case side2 => exact HC0.out); rintro e w80 ⟨rfl, hb⟩; replace BK517 := bk_ BK517 hb; replace HB := hB_ HB hb; (try clear hb)))
    repeat (go_quiet (first | (go_at_call 16; (with_reducible refine (pole_Price.calls kj62 _ _ l2 t536 t541 t542 _ ?side1 ?side2 A68.out).mono ?_); (case side1 => repeat (first | exact (Kd.C_below HR2.out HB.out) | (with_reducible refine Kd.C_alloc ?_ _) | (with_reducible refine Kd.C_drewN ?_ _) | (with_reducible refine Kd.C_drew ?_))); (case side2 => exact HC2.out); rintro e w78 ⟨rfl, hb⟩; replace BK517 := bk_ BK517 hb; replace HB := hB_ HB hb; (try clear hb); obtain ⟨hcz79_0, hcz79_1, hfz79_0, hfz79_1⟩ := cz2_ BK517.out) | (go_at_call 18; (with_reducible refine (pole_Fair.calls _ _ l0 a1_0 a1_1 t536 t543 t544 _ ?side1 ?side2 A69.out).mono ?_); (case side1 => repeat (first | exact (Kd.C_below HR0.out HB.out) | (with_reducible refine Kd.C_alloc ?_ _) | (with_reducible refine Kd.C_drewN ?_ _) | (with_reducible refine Kd.C_drew ?_))); (case side2 => exact HC0.out); rintro e w80 ⟨rfl, hb⟩; replace BK517 := bk_ BK517 hb; replace HB := hB_ HB hb; (try clear hb))); try go_wp2_with (first | (go_at_call 16; (with_reducible refine (pole_Price.calls kj62 _ _ l2 t536 t541 t542 _ ?side1 ?side2 A68.out).mono ?_); (case side1 => repeat (first | exact (Kd.C_below HR2.out HB.out) | (with_reducible refine Kd.C_alloc ?_ _) | (with_reducible refine Kd.C_drewN ?_ _) | (with_reducible refine Kd.C_drew ?_))); (case side2 => exact HC2.out); rintro e w78 ⟨rfl, hb⟩; replace BK517 := bk_ BK517 hb; replace HB := hB_ HB hb; (try clear hb); obtain ⟨hcz79_0, hcz79_1, hfz79_0, hfz79_1⟩ := cz2_ BK517.out) | (go_at_call 18; (with_reducible refine (pole_Fair.calls _ _ l0 a1_0 a1_1 t536 t543 t544 _ ?side1 ?side2 A69.out).mono ?_); (case side1 => repeat (first | exact (Kd.C_below HR0.out HB.out) | (with_reducible refine Kd.C_alloc ?_ _) | (with_reducible refine Kd.C_drewN ?_ _) | (with_reducible refine Kd.C_drew ?_))); (case side2 => exact HC0.out); rintro e w80 ⟨rfl, hb⟩; replace BK517 := bk_ BK517 hb; replace HB := hB_ HB hb; (try clear hb))))
    go_ret
    exact ⟨b4_, b1_⟩
  rw [if_pos c72] at H
  have c72b0 : decide (t543 < t541) = true := decide_eq_true c72
  clear c72
  replace H := Option.bind_eq_some_iff.mp H
  obtain ⟨t545, A730, H⟩ := H
  replace H : (some t545) = some r := H
  have A73 := Aside0.mk A730
  clear A730
  obtain rfl := Option.some.inj H
  go_wp2_with (first | (go_at_call 16; (with_reducible refine (pole_Price.calls kj62 _ _ l2 t536 t541 t542 _ ?side1 ?side2 A68.out).mono ?_); (case side1 => repeat (first | exact (Kd.C_below HR2.out HB.out) | (with_reducible refine Kd.C_alloc ?_ _) | (with_reducible refine Kd.C_drewN ?_ _) | (with_reducible refine Kd.C_drew ?_))); (case side2 => exact HC2.out); rintro e w74 ⟨rfl, hb⟩; replace BK517 := bk_ BK517 hb; replace HB := hB_ HB hb; (try clear hb); obtain ⟨hcz75_0, hcz75_1, hfz75_0, hfz75_1⟩ := cz2_ BK517.out) | (go_at_call 18; (with_reducible refine (pole_Fair.calls _ _ l0 a1_0 a1_1 t536 t543 t544 _ ?side1 ?side2 A69.out).mono ?_); (case side1 => repeat (first | exact (Kd.C_below HR0.out HB.out) | (with_reducible refine Kd.C_alloc ?_ _) | (with_reducible refine Kd.C_drewN ?_ _) | (with_reducible refine Kd.C_drew ?_))); (case side2 => exact HC0.out); rintro e w76 ⟨rfl, hb⟩; replace BK517 := bk_ BK517 hb; replace HB := hB_ HB hb; (try clear hb)) | (go_at_call 15; (with_reducible refine (forecourtlaw09_Works.calls  t545 _ A73.out).mono ?_); rintro e w77 ⟨rfl, hb⟩; replace BK517 := bk_ BK517 hb; replace HB := hB_ HB hb; (try clear hb)))
  repeat (go_quiet (first | (go_at_call 16; (with_reducible refine (pole_Price.calls kj62 _ _ l2 t536 t541 t542 _ ?side1 ?side2 A68.out).mono ?_); (case side1 => repeat (first | exact (Kd.C_below HR2.out HB.out) | (with_reducible refine Kd.C_alloc ?_ _) | (with_reducible refine Kd.C_drewN ?_ _) | (with_reducible refine Kd.C_drew ?_))); (case side2 => exact HC2.out); rintro e w74 ⟨rfl, hb⟩; replace BK517 := bk_ BK517 hb; replace HB := hB_ HB hb; (try clear hb); obtain ⟨hcz75_0, hcz75_1, hfz75_0, hfz75_1⟩ := cz2_ BK517.out) | (go_at_call 18; (with_reducible refine (pole_Fair.calls _ _ l0 a1_0 a1_1 t536 t543 t544 _ ?side1 ?side2 A69.out).mono ?_); (case side1 => repeat (first | exact (Kd.C_below HR0.out HB.out) | (with_reducible refine Kd.C_alloc ?_ _) | (with_reducible refine Kd.C_drewN ?_ _) | (with_reducible refine Kd.C_drew ?_))); (case side2 => exact HC0.out); rintro e w76 ⟨rfl, hb⟩; replace BK517 := bk_ BK517 hb; replace HB := hB_ HB hb; (try clear hb)) | (go_at_call 15; (with_reducible refine (forecourtlaw09_Works.calls  t545 _ A73.out).mono ?_); rintro e w77 ⟨rfl, hb⟩; replace BK517 := bk_ BK517 hb; replace HB := hB_ HB hb; (try clear hb))); try go_wp2_with (first | (go_at_call 16; (with_reducible refine (pole_Price.calls kj62 _ _ l2 t536 t541 t542 _ ?side1 ?side2 A68.out).mono ?_); (case side1 => repeat (first | exact (Kd.C_below HR2.out HB.out) | (with_reducible refine Kd.C_alloc ?_ _) | (with_reducible refine Kd.C_drewN ?_ _) | (with_reducible refine Kd.C_drew ?_))); (case side2 => exact HC2.out); rintro e w74 ⟨rfl, hb⟩; replace BK517 := bk_ BK517 hb; replace HB := hB_ HB hb; (try clear hb); obtain ⟨hcz75_0, hcz75_1, hfz75_0, hfz75_1⟩ := cz2_ BK517.out) | (go_at_call 18; (with_reducible refine (pole_Fair.calls _ _ l0 a1_0 a1_1 t536 t543 t544 _ ?side1 ?side2 A69.out).mono ?_); (case side1 => repeat (first | exact (Kd.C_below HR0.out HB.out) | (with_reducible refine Kd.C_alloc ?_ _) | (with_reducible refine Kd.C_drewN ?_ _) | (with_reducible refine Kd.C_drew ?_))); (case side2 => exact HC0.out); rintro e w76 ⟨rfl, hb⟩; replace BK517 := bk_ BK517 hb; replace HB := hB_ HB hb; (try clear hb)) | (go_at_call 15; (with_reducible refine (forecourtlaw09_Works.calls  t545 _ A73.out).mono ?_); rintro e w77 ⟨rfl, hb⟩; replace BK517 := bk_ BK517 hb; replace HB := hB_ HB hb; (try clear hb))))
  go_ret
  exact ⟨b4_, b1_⟩

end Go.Proofs.Ytcgdbjojjpoegaa.P

/- The plain law of PoleFair: the printed function answers yes. -/
namespace Go.Proofs.Ytcgdbjojjpoegaa.P
open Go.RowKit
set_option maxRecDepth 20000
theorem rng_u8 {a : Int} (w : (Lit.int .u8 a).wf = true) : 0 ≤ a ∧ a ≤ 255 := by
  have h : (0 : Int) ≤ a ∧ a ≤ 255 := by simpa [Lit.wf, IntKind.min, IntKind.max, IntKind.signed, IntKind.bits] using w
  exact h
theorem rng_u16 {a : Int} (w : (Lit.int .u16 a).wf = true) : 0 ≤ a ∧ a ≤ 65535 := by
  have h : (0 : Int) ≤ a ∧ a ≤ 65535 := by simpa [Lit.wf, IntKind.min, IntKind.max, IntKind.signed, IntKind.bits] using w
  exact h
/-- what law and program take as sign and clocks -/
theorem fine_eq (l : List S54) (lo hi : Int) (k : Nat) (hk : 100 ≤ k) : forecourtlaw09_fine.f k l lo hi = some (decide (signE l = 0 ∧ clockB lo hi = true)) := by
  unfold forecourtlaw09_fine.f
  rw [refCS l k hk, isClocks_eq]
  simp only [Option.bind_some]
  by_cases h : signE l = 0
  · have := (signE_sign h).le
    rw [if_pos (by omega), if_pos h]
    cases clockB lo hi <;> simp [h]
  · rw [if_neg h]
    simp [h]
theorem pole_Fair_eq {l : List S54} (hl : signE l = 0) {lo hi m : Int} (hc : Clk lo hi) (h0 : 0 ≤ m) (h1 : m ≤ 2000) : pole_Fair.f l lo hi m = some (fairV l lo hi m, 0) := by
  unfold pole_Fair.f pole_within.f
  rw [checkClocks_eq, if_pos hl, if_pos (clockB_iff.2 hc)]
  simp only [Option.bind_some]
  rw [if_pos trivial, show withinB 0 2000 [m] = true from withinB_1.2 ⟨h0, h1⟩, if_pos rfl, (fairV_some (signE_sign hl) hc (by omega) (by omega)).1]
  rfl
theorem pole_Price_eq {l : List S54} (hl : signE l = 0) {m : Int} (h0 : 0 ≤ m) (h1 : m ≤ 2000) (k : Nat) (hk : 100 ≤ k) : pole_Price.f k l m = some (atV l m, 0) := by
  rw [price_eq l m k hk]
  unfold priceV
  rw [if_pos hl, if_pos ⟨h0, h1⟩]
theorem poleFair_j5 {l p : List S54} (hl : signE l = 0) (hp : signE p = 0) {lo hi m : Int} (hc : Clk lo hi) (h0 : 0 ≤ m) (h1 : m ≤ 2000) (hch : Cheats l p lo hi m) (k : Nat) (hk : 200 ≤ k) : forecourtlaw09_PoleFair.j5 k l p m false lo hi = some true := by
  obtain ⟨k, rfl⟩ : ∃ j, k = j + 1 := ⟨k - 1, by omega⟩
  have hch' : atV p m > fairV l lo hi m := hch
  rw [forecourtlaw09_PoleFair.j5, if_neg (by decide), pole_Price_eq hp h0 h1 k (by omega), pole_Fair_eq hl hc h0 h1]
  simp only [Option.bind_some, if_true]
  rw [if_pos hch']
  rfl
theorem poleFair_j4 {l p : List S54} (hl : signE l = 0) (hp : signE p = 0) {lo hi m : Int} (hc : Clk lo hi) (h0 : 0 ≤ m) (h1 : m ≤ 2000) {v : Int × Int} (hv : CheatSpec l p lo hi v) (k : Nat) (hk : 300 ≤ k) :
    forecourtlaw09_PoleFair.j4 k l p m v.2 (fairV l lo hi m) (fairV l lo hi m) v.1 (atV p m) false lo hi = some true := by
  obtain ⟨k, rfl⟩ : ∃ j, k = j + 1 := ⟨k - 1, by omega⟩
  rw [forecourtlaw09_PoleFair.j4, if_neg (by decide)]
  rcases hv with ⟨rfl, h⟩ | ⟨c, rfl, c0, c1, c2, c3⟩
  · have := h m h0 h1
    unfold Cheats at this
    rw [if_pos rfl, if_pos (by omega)]
    rfl
  · have h5 := poleFair_j5 hl hp hc c0 c1 c2 k (by omega)
    simp only
    rw [if_neg (by decide), if_neg (by omega), if_neg (by omega)]
    by_cases h6 : m < c
    · rw [if_pos h6]
      have := c3 m h0 h6
      unfold Cheats at this
      rw [show decide (atV p m > fairV l lo hi m) = false from decide_eq_false this]
      exact h5
    · rw [if_neg h6]
      exact h5
theorem poleFair_l0 {l p : List S54} (hl : signE l = 0) {lo hi m : Int} (hc : Clk lo hi) (h0 : 0 ≤ m) (h1 : m ≤ 2000) : ∀ (n k i : Nat), i + n = (highs l lo hi (mins 2001)).length → n + 1000 < k →
    forecourtlaw09_PoleFair.l0 k l p m (highs l lo hi (mins 2001)) (fairV l lo hi m) (fairV l lo hi m) ((i : Int) + 1) lo hi = some true
  | n, 0, i => fun _ hk => by omega
  | n, k + 1, i => fun hi' hk => by
    have hs := signE_sign hl
    have hle := highs_le hs hc
    rw [forecourtlaw09_PoleFair.l0]
    by_cases hlt : i + 1 < (highs l lo hi (mins 2001)).length
    · rw [if_pos (by omega), if_pos (by omega), wrap_ok ((i : Int) + 1 - 1) (by omega) (by omega), if_pos (by omega), if_pos (by omega), wrap_ok ((i : Int) + 1 + 1) (by omega) (by omega), if_neg]
      · cases n with
        | zero => omega
        | succ n => exact poleFair_l0 hl hc h0 h1 n k (i + 1) (by omega) (by omega)
      · have e1 : rd_T54 (highs l lo hi (mins 2001)) ((i : Int) + 1) = (highs l lo hi (mins 2001))[i + 1] := rdP _ (i + 1) hlt
        have e2 : rd_T54 (highs l lo hi (mins 2001)) ((i : Int) + 1 - 1) = (highs l lo hi (mins 2001))[i] := by
          rw [show (i : Int) + 1 - 1 = (i : Int) by omega]
          exact rdP _ i (by omega)
        rw [e1, e2]
        exact highs_differ hs hc hlt
    · rw [if_neg (by omega), refCS p k (by omega), Option.bind_some]
      by_cases hp : signE p = 0
      · rw [if_pos hp]
        obtain ⟨v, e, hv⟩ := pole_Cheat_eq hl hp hc
        have h4 := poleFair_j4 hl hp hc h0 h1 hv k (by omega)
        rw [e, pole_Price_eq hp h0 h1 k (by omega)]
        simp only [Option.bind_some, if_true]
        split
        · exact h4
        · have : (v.2 != 5) = false := by
            rcases hv with ⟨rfl, _⟩ | ⟨c, rfl, _⟩
            · rfl
            · rename_i h7
              exact absurd rfl h7
          rw [this]
          exact h4
      · rw [if_neg hp]
        rfl
theorem poleFair_j1 {l p : List S54} (hl : signE l = 0) {lo hi m by' : Int} (hc : Clk lo hi) (h0 : 0 ≤ m) (h1 : m ≤ 2000) (hb : lo ≤ by' ∧ by' ≤ hi) (k : Nat) (hk : 3000 ≤ k) : forecourtlaw09_PoleFair.j1 k l p m by' (highs l lo hi (mins 2001)) false lo hi = some true := by
  obtain ⟨k, rfl⟩ : ∃ j, k = j + 1 := ⟨k - 1, by omega⟩
  have hs := signE_sign hl
  have hS := highs_sign hs hc
  have hle := highs_le hs hc
  have ha := hc.a
  have hcc := hc.c
  rw [forecourtlaw09_PoleFair.j1, if_neg (by decide), pole_Price_eq hS h0 h1 k (by omega), pole_Fair_eq hl hc h0 h1, highs_at hs hc h0 h1]
  obtain ⟨v, e, hv⟩ := pole_Cheat_eq hl hS hc
  have hv5 : v = (0, 5) := by
    rcases hv with ⟨h, _⟩ | ⟨c, _, c0, c1, c2, _⟩
    · exact h
    · unfold Cheats at c2
      rw [highs_at hs hc c0 c1] at c2
      omega
  rw [e, hv5]
  simp only [Option.bind_some, if_true]
  rw [wrap_ok (m + by') (by omega) (by omega), ref_at l _ hs.pos hs.le k (by omega)]
  simp only [Option.bind_some]
  have hF := (fairV_some hs hc (m := m) (by omega) (by omega)).2.2 (m + by') (by omega) (by omega)
  obtain ⟨k, rfl⟩ : ∃ j, k = j + 1 := ⟨k - 1, by omega⟩
  rw [if_neg (by omega), bne_self_eq_false, forecourtlaw09_PoleFair.j2, if_neg (by decide)]
  exact poleFair_l0 hl hc h0 h1 _ k 0 (Nat.zero_add _) (by omega)
theorem Pure.PoleFair (l : List S54) (lo hi : Int) (p : List S54) (m o : Int) (_ : ∀ x ∈ l, I64 x.f0 ∧ I64 x.f1) (_ : I64 lo) (_ : I64 hi) (_ : ∀ x ∈ p, I64 x.f0 ∧ I64 x.f1) (hm : (Lit.int .u16 m).wf = true) (ho : (Lit.int .u8 o).wf = true) : ∃ k, forecourtlaw09_PoleFair.f k l lo hi p m o = some true := by
  refine ⟨5000 + 1, ?_⟩
  have h1 := rng_u16 hm
  have h2 := rng_u8 ho
  unfold forecourtlaw09_PoleFair.f
  rw [fine_eq l lo hi _ (by omega), Option.bind_some]
  split
  · rename_i h
    have h := of_decide_eq_true h
    have hc := clockB_iff.1 h.2
    have ha := hc.a
    have hb := hc.b
    have hcc := hc.c
    rw [forecourtlaw09_PoleFair.j0]
    split
    · rfl
    · rw [wrap_ok m (by omega) (by omega), wrap_ok o (by omega) (by omega), wrap_ok (hi - lo) (by omega) (by omega), wrap_ok (hi - lo + 1) (by omega) (by omega), if_neg (by omega), pole_Highest_eq h.1 hc, Option.bind_some]
      simp only [if_true]
      rw [refCS _ _ (by omega), Option.bind_some, highs_sign (signE_sign h.1) hc]
      have e1 := Int.tmod_eq_emod_of_nonneg (b := 2001) h1.1
      have e2 := Int.tmod_eq_emod_of_nonneg (b := hi - lo + 1) h2.1
      have e3 := Int.emod_nonneg o (show hi - lo + 1 ≠ 0 by omega)
      have e4 := Int.emod_lt_of_pos o (show 0 < hi - lo + 1 by omega)
      rw [e2, wrap_ok (lo + o % (hi - lo + 1)) (by omega) (by omega), show ((0 : Int) != 0) = false from rfl]
      exact poleFair_j1 h.1 hc (by omega) (by omega) (by omega) _ (by omega)
  · rw [forecourtlaw09_PoleFair.j0, if_pos rfl]
    rfl
end Go.Proofs.Ytcgdbjojjpoegaa.P

