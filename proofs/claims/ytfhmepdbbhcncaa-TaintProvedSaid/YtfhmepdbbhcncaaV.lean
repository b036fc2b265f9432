import Derived.Test.YtfhmepdbbhcncaaPx2
namespace Go.Proofs.Ytfhmepdbbhcncaa.P
open Go.RowKit Go.Proofs.YtfhmepdbbhcncaaW.PrintWords

theorem rev_l0 : ∀ (k : Nat) (xs : List Int) (a : Nat), xs.length ≤ 100000 → xs.length ≤ 2 * a + k + 1 → a ≤ xs.length → ∃ ys, slices_Reverse_int_int.l0 (k + 1) xs (a : Int) ((xs.length : Int) - 1 - a) = some ys ∧ ys.length = xs.length ∧
    ∀ p, p < xs.length → ys.getD p 0 = if a ≤ p ∧ p + a < xs.length then xs.getD (xs.length - 1 - p) 0 else xs.getD p 0 := by
  intro k
  induction k with
  | zero =>
    intro xs a h1 h2 h3
    refine ⟨xs, ?_, rfl, fun p hp => ?_⟩
    · rw [slices_Reverse_int_int.l0, if_neg (by omega)]
    · split
      · have : xs.length - 1 - p = p := by omega
        rw [this]
      · rfl
  | succ k ih =>
    intro xs a h1 h2 h3
    by_cases hlt : (a : Int) < (xs.length : Int) - 1 - a
    · rw [slices_Reverse_int_int.l0, if_pos hlt, if_pos (by omega), if_pos (by omega), if_pos (by omega), if_pos (by omega)]
      have w1 : wrap64 ((a : Int) + 1) = ((a + 1 : Nat) : Int) := (IntWalk.wrap64_in _ (by omega)).trans (by omega)
      have w2 : wrap64 ((xs.length : Int) - 1 - a - 1) = (xs.length : Int) - 1 - ((a + 1 : Nat) : Int) := (IntWalk.wrap64_in _ (by omega)).trans (by omega)
      rw [w1, w2]
      have e2 : ((xs.length : Int) - 1 - a).toNat = xs.length - 1 - a := by omega
      obtain ⟨ys, hy, hl, hp⟩ := ih ((xs.set (a : Int).toNat (rd xs ((xs.length : Int) - 1 - a))).set ((xs.length : Int) - 1 - a).toNat (rd xs (a : Int))) (a + 1) (by simpa using h1) (by simp; omega) (by simp; omega)
      simp only [List.length_set] at hy hl hp
      refine ⟨ys, hy, hl, fun p hp' => ?_⟩
      rw [hp p hp']
      have gs : ∀ (q : Nat) (u v : Int), ((xs.set (a : Int).toNat u).set ((xs.length : Int) - 1 - a).toNat v).getD q 0 = if q = xs.length - 1 - a then v else if q = a then u else xs.getD q 0 := by
        intro q u v
        rw [e2, Int.toNat_natCast, List.getD_eq_getElem?_getD, List.getElem?_set, List.getElem?_set]
        by_cases h4 : xs.length - 1 - a = q
        · rw [if_pos h4, if_pos h4.symm, if_pos (by simp; omega)]; rfl
        · have h4' : ¬ q = xs.length - 1 - a := fun e => h4 e.symm
          rw [if_neg h4, if_neg h4']
          by_cases h5 : a = q
          · have h6 : a < xs.length := by omega
            rw [if_pos h5, if_pos h5.symm, if_pos h6]; rfl
          · have h5' : ¬ q = a := fun e => h5 e.symm
            rw [if_neg h5, if_neg h5', List.getD_eq_getElem?_getD]
      rw [gs, gs]
      have r1 : rd xs ((xs.length : Int) - 1 - a) = xs.getD (xs.length - 1 - a) 0 := by rw [rd, e2]
      have r2 : rd xs (a : Int) = xs.getD a 0 := by rw [rd, Int.toNat_natCast]
      rw [r1, r2]
      by_cases hpa : p = a
      · subst hpa
        have c1 : ¬ (p + 1 ≤ p ∧ p + (p + 1) < xs.length) := by omega
        have c2 : p ≠ xs.length - 1 - p := by omega
        have c3 : p ≤ p ∧ p + p < xs.length := by omega
        rw [if_neg c1, if_neg c2, if_pos rfl, if_pos c3]
      · by_cases hpb : p = xs.length - 1 - a
        · have c1 : ¬ (a + 1 ≤ p ∧ p + (a + 1) < xs.length) := by omega
          have c3 : a ≤ p ∧ p + a < xs.length := by omega
          have c4 : xs.length - 1 - p = a := by omega
          rw [if_neg c1, if_pos hpb, if_pos c3, c4]
        · by_cases hin : a ≤ p ∧ p + a < xs.length
          · have c1 : a + 1 ≤ p ∧ p + (a + 1) < xs.length := by omega
            have c2 : xs.length - 1 - p ≠ xs.length - 1 - a := by omega
            have c3 : xs.length - 1 - p ≠ a := by omega
            rw [if_pos c1, if_pos hin, if_neg c2, if_neg c3]
          · have c1 : ¬ (a + 1 ≤ p ∧ p + (a + 1) < xs.length) := by omega
            rw [if_neg c1, if_neg hin, if_neg hpb, if_neg hpa]
    · refine ⟨xs, ?_, rfl, fun p hp => ?_⟩
      · rw [slices_Reverse_int_int.l0, if_neg hlt]
      · split
        · have : xs.length - 1 - p = p := by omega
          rw [this]
        · rfl

theorem rev_ok (xs : List Int) (h : xs.length ≤ 100000) : slices_Reverse_int_int.f 100001 xs = some xs.reverse := by
  obtain ⟨ys, hy, hl, hp⟩ := rev_l0 100000 xs 0 h (by omega) (by omega)
  have e : wrap64 ((xs.length : Int) - 1) = (xs.length : Int) - 1 - ((0 : Nat) : Int) := (IntWalk.wrap64_in _ (by omega)).trans (by omega)
  rw [slices_Reverse_int_int.f, e]
  refine hy.trans ?_
  congr 1
  apply List.ext_getElem
  · simpa using hl
  · intro p h1 h2
    have h3 : p < xs.length := by omega
    have := hp p h3
    rw [if_pos (by omega)] at this
    rw [List.getElem_reverse]
    simpa [List.getD_eq_getElem?_getD, h1, h3, show xs.length - 1 - p < xs.length by omega] using this
end Go.Proofs.Ytfhmepdbbhcncaa.P
