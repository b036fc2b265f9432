import Derived.Test.YtfhmepdbbhcncaaT1
import Derived.Test.YtfhmepdbbhcncaaT4
import Derived.Test.YtfhmepdbbhcncaaPf64
namespace Go.Proofs.Ytfhmepdbbhcncaa.P
open Go.RowKit Go.Proofs.YtfhmepdbbhcncaaW.PrintWords Go.Proofs.YtfhmepdbbhcncaaW.PrintLast Go.Proofs.YtfhmepdbbhcncaaW.PrintMore
set_option linter.unusedVariables false
set_option linter.unusedSimpArgs false

theorem mn_eq (a b : Int) : mn a b = min a b := by unfold mn; split <;> omega
theorem mx_eq (a b : Int) : mx a b = max a b := by unfold mx; split <;> omega
theorem rd_gc (c : List Int) (v : Int) : rd c v = gc c v := rfl
theorem refA_mono1 {sure : Bool} {but n : Int} {l : List S58} {c : List Int} {x : Int} {r : List Int} : ∀ (d k : Nat), forecourtref05_arrivals.l1 k sure but c x n l = some r → forecourtref05_arrivals.l1 (k + d) sure but c x n l = some r
  | 0, k, h => h
  | d + 1, k, h => (forecourtref05_arrivals.mono_l (k + d)).2.1 _ _ _ _ _ _ r (refA_mono1 d k h)
theorem refA_l2 (sure : Bool) (but n : Int) (l : List S58) (hl : l.length ≤ 1000) (hm : ∀ m ∈ l, 0 ≤ m.f0 ∧ m.f0 < n ∧ 0 ≤ m.f1 ∧ m.f1 < n) (x11 : Int) (r : List Int) (k0 : Nat) : ∀ (d i k : Nat) (c : List Int), l.length = i + d → k0 + 2 * d + 1 ≤ k → (c.length : Int) = n →
    forecourtref05_arrivals.l1 k0 sure but ((l.drop i).foldl (relaxM (if sure then sureF else soonF) but) c) (wrap64 (x11 + 1)) n l = some r → forecourtref05_arrivals.l2 k sure but c x11 (i : Int) n l = some r
  | 0, i, k, c, hi, hk, hc, h => by
    obtain ⟨j, rfl⟩ : ∃ j, k = j + 1 := ⟨k - 1, by omega⟩
    rw [forecourtref05_arrivals.l2, if_neg (by omega)]
    have : i = l.length := by omega
    subst this
    rw [List.drop_length, List.foldl_nil] at h
    have := refA_mono1 (j - k0) k0 h
    rwa [show k0 + (j - k0) = j by omega] at this
  | d + 1, i, k, c, hi, hk, hc, h => by
    obtain ⟨j, rfl⟩ : ∃ j, k = j + 2 := ⟨k - 2, by omega⟩
    have hlt : i < l.length := by omega
    have e : l.drop i = l[i] :: l.drop (i + 1) := List.drop_eq_getElem_cons hlt
    obtain ⟨g0, g1, g2, g3⟩ := hm l[i] (List.getElem_mem hlt)
    rw [e, List.foldl_cons] at h
    rw [forecourtref05_arrivals.l2, if_pos (by omega), if_pos (by omega), rdT l i hlt, wrap_next i (by omega)]
    by_cases hb : l[i].f1 = but
    · rw [if_pos hb]
      refine refA_l2 sure but n l hl hm x11 r k0 d (i + 1) (j + 1) c (by omega) (by omega) hc ?_
      rw [relaxM, if_pos hb] at h
      exact h
    · rw [if_neg hb, if_pos g0, if_pos (by omega)]
      have hlen := relax_len (step := if sure then sureF else soonF) (but := but) c l[i]
      have IH : ∀ c', c' = relaxM (if sure then sureF else soonF) but c l[i] → forecourtref05_arrivals.l2 j sure but c' x11 ((i + 1 : Nat) : Int) n l = some r := fun c' hc' => by
        subst hc'
        exact refA_l2 sure but n l hl hm x11 r k0 d (i + 1) j _ (by omega) (by omega) (by rw [hlen]; exact hc) h
      clear h
      cases sure with
      | true =>
        rw [if_pos rfl, forecourtref05_arrivals.j3, rd_gc, rd_gc]
        by_cases ho : gc c l[i].f0 ≤ l[i].f2.f0
        · rw [if_pos (decide_eq_true ho), if_pos g2, if_pos (by omega), Option.bind_some, if_pos rfl, wrap_next i (by omega)]
          refine IH _ ?_
          rw [relaxM, if_neg hb, if_pos (show ((if true = true then sureF else soonF) (gc c l[i].f0) l[i]).2 = true from decide_eq_true ho), mn_eq]
          rfl
        · rw [if_neg (by simp only [decide_eq_true_eq]; exact ho), if_pos rfl, wrap_next i (by omega)]
          refine IH _ ?_
          rw [relaxM, if_neg hb, if_neg (show ¬ ((if true = true then sureF else soonF) (gc c l[i].f0) l[i]).2 = true from fun h => ho (of_decide_eq_true h))]
      | false =>
        rw [if_neg (by simp), forecourtref05_arrivals.j3, if_neg (by simp), if_neg (by simp), rd_gc, rd_gc]
        by_cases ho : gc c l[i].f0 ≤ l[i].f2.f1
        · rw [if_pos ho, if_pos g2, if_pos (by omega), wrap_next i (by omega)]
          refine IH _ ?_
          rw [relaxM, if_neg hb, if_pos (show ((if false = true then sureF else soonF) (gc c l[i].f0) l[i]).2 = true from decide_eq_true ho), mn_eq, mx_eq]
          rfl
        · rw [if_neg ho, wrap_next i (by omega)]
          refine IH _ ?_
          rw [relaxM, if_neg hb, if_neg (show ¬ ((if false = true then sureF else soonF) (gc c l[i].f0) l[i]).2 = true from fun h => ho (of_decide_eq_true h))]
theorem refA_l1 (sure : Bool) (but n : Int) (l : List S58) (hl : l.length ≤ 1000) (hn : n ≤ 1000) (hm : ∀ m ∈ l, 0 ≤ m.f0 ∧ m.f0 < n ∧ 0 ≤ m.f1 ∧ m.f1 < n) : ∀ (d x k : Nat) (c : List Int), n = ((x + d : Nat) : Int) → d * (2 * l.length + 2) + 1 ≤ k → (c.length : Int) = n →
    forecourtref05_arrivals.l1 k sure but c (x : Int) n l = some (bfN (if sure then sureF else soonF) but l d c)
  | 0, x, k, c, hx, hk, hc => by
    obtain ⟨j, rfl⟩ : ∃ j, k = j + 1 := ⟨k - 1, by omega⟩
    rw [forecourtref05_arrivals.l1, if_neg (by omega), bfN]
  | d + 1, x, k, c, hx, hk, hc => by
    rw [Nat.succ_mul] at hk
    obtain ⟨j, rfl⟩ : ∃ j, k = j + 1 := ⟨k - 1, by omega⟩
    rw [forecourtref05_arrivals.l1, if_pos (by omega), bfN]
    refine refA_l2 sure but n l hl hm x _ (d * (2 * l.length + 2) + 1) l.length 0 j c (by omega) (by omega) hc ?_
    rw [List.drop_zero, wrap_next x (by omega)]
    exact refA_l1 sure but n l hl hn hm d (x + 1) _ _ (by omega) (Nat.le_refl _) (by rw [fold_len]; exact hc)
theorem refA_l0 (sure : Bool) (but n : Int) (l : List S58) (sv st : Int) (hl : l.length ≤ 1000) (hn : n ≤ 1000) (hsv : 0 ≤ sv ∧ sv < n) (hm : ∀ m ∈ l, 0 ≤ m.f0 ∧ m.f0 < n ∧ 0 ≤ m.f1 ∧ m.f1 < n) : ∀ (d i k : Nat) (c : List Int), n = ((i + d : Nat) : Int) → n.toNat * (2 * l.length + 2) + 2 + d ≤ k → (c.length : Int) = n →
    (∀ j : Nat, j < i → c.getD j 0 = 1048576) → forecourtref05_arrivals.l0 k sure but c (i : Int) n l sv st = some (bfN (if sure then sureF else soonF) but l n.toNat (bf0 n sv st))
  | 0, i, k, c, hi, hk, hc, hall => by
    obtain ⟨j, rfl⟩ : ∃ j, k = j + 1 := ⟨k - 1, by omega⟩
    have ec : c = List.replicate n.toNat 1048576 := by
      rw [List.eq_replicate_iff]
      refine ⟨by omega, fun b hb => ?_⟩
      obtain ⟨q, hq, rfl⟩ := List.getElem_of_mem hb
      have := hall q (by omega)
      simpa [List.getD, hq] using this
    rw [forecourtref05_arrivals.l0, if_neg (by omega), if_pos hsv.1, if_pos (by omega), ec]
    exact refA_l1 sure but n l hl hn hm n.toNat 0 j _ (by omega) (by omega) (by simp; omega)
  | d + 1, i, k, c, hi, hk, hc, hall => by
    obtain ⟨j, rfl⟩ : ∃ j, k = j + 1 := ⟨k - 1, by omega⟩
    rw [forecourtref05_arrivals.l0, if_pos (by omega), if_pos (by omega), wrap_next i (by omega)]
    refine refA_l0 sure but n l sv st hl hn hsv hm d (i + 1) j _ (by omega) (by omega) (by simp; exact hc) (fun q hq => ?_)
    by_cases e : q = i
    · subst e
      have : q < c.length := by omega
      simp [List.getD, this]
    · have h2 := hall q (by omega)
      have : (i : Int).toNat ≠ q := by omega
      rw [List.getD_eq_getElem?_getD, List.getElem?_set_ne this, ← List.getD_eq_getElem?_getD]
      exact h2
/-- The document's arrivals. -/
theorem refArr (sure : Bool) (but n : Int) (l : List S58) (sv st : Int) (hy : YardOK n l) (hst : 0 ≤ st ∧ st ≤ 100000) (hsv : 0 ≤ sv ∧ sv < n) (may : S58 → Bool) (hmay : ∀ m ∈ l, may m = decide (m.f1 ≠ but)) (k : Nat) (hk : 1700 ≤ k) :
    forecourtref05_arrivals.f k n l sv st sure but = some ((runC (if sure then sureF else soonF) may n l sv st).1.take n.toNat) := by
  have hs : StepOK (if sure then sureF else soonF) l := by
    cases sure with
    | true => exact StepOK.sure hy
    | false => exact StepOK.soon hy
  have h1 := hy.n1
  have h2 := hy.n2
  have h3 := hy.len
  rw [← bf_eq hy hs hst hsv hmay]
  unfold forecourtref05_arrivals.f
  rw [if_pos (by omega), if_pos (by omega)]
  have hb : n.toNat * (2 * l.length + 2) ≤ 20 * 82 := Nat.mul_le_mul (by omega) (by omega)
  exact refA_l0 sure but n l sv st (by omega) (by omega) hsv (fun m hm => by have := hy.mv m hm; omega) n.toNat 0 k _ (by omega) (by omega) (by simp; omega) (fun j hj => absurd hj (Nat.not_lt_zero _))
theorem drop_eq_step {a b : List Int} {i : Nat} (ha : i < a.length) (hb : i < b.length) : (a.drop i = b.drop i) ↔ (a[i] = b[i] ∧ a.drop (i + 1) = b.drop (i + 1)) := by
  rw [List.drop_eq_getElem_cons ha, List.drop_eq_getElem_cons hb, List.cons.injEq]
theorem ints_l0 (a b : List Int) (hab : a.length = b.length) (hl : a.length ≤ 1000) : ∀ (k i : Nat), a.length < k + i → i ≤ a.length → forecourtlaw05_ints.l0 k a b (i : Int) = some (decide (a.drop i = b.drop i))
  | 0, i, h, hi => by omega
  | k + 1, i, h, hi => by
    rw [forecourtlaw05_ints.l0]
    by_cases hlt : i < a.length
    · rw [if_pos (by omega), if_pos (by omega), if_pos (by omega), rdI a i hlt, rdI b i (by omega), wrap_next i (by omega), ints_l0 a b hab hl k (i + 1) (by omega) (by omega)]
      have := drop_eq_step hlt (show i < b.length by omega)
      by_cases e : a[i] = b[i]
      · rw [if_pos e]
        congr 1
        rw [decide_eq_decide]
        exact ⟨fun h => this.2 ⟨e, h⟩, fun h => (this.1 h).2⟩
      · rw [if_neg e]
        congr 1
        symm
        exact decide_eq_false fun h => e (this.1 h).1
    · rw [if_neg (by omega), List.drop_eq_nil_of_le (by omega), List.drop_eq_nil_of_le (by omega)]
      rfl
theorem ints_eq (a b : List Int) (hl : a.length ≤ 1000) (k : Nat) (hk : 1002 ≤ k) : forecourtlaw05_ints.f k a b = some (decide (a = b)) := by
  unfold forecourtlaw05_ints.f
  by_cases h : (a.length : Int) = (b.length : Int)
  · rw [if_pos h]
    have := ints_l0 a b (by omega) hl k 0 (by omega) (by omega)
    rw [List.drop_zero, List.drop_zero] at this
    exact this
  · rw [if_neg h]
    congr 1
    symm
    exact decide_eq_false fun e => h (by rw [e])
theorem longs_l0 (a b : List Int) (hab : a.length = b.length) (hl : a.length ≤ 1000) : ∀ (k i : Nat), a.length < k + i → i ≤ a.length → forecourtlaw05_longs.l0 k a b (i : Int) = some (decide (a.drop i = b.drop i))
  | 0, i, h, hi => by omega
  | k + 1, i, h, hi => by
    rw [forecourtlaw05_longs.l0]
    by_cases hlt : i < a.length
    · rw [if_pos (by omega), if_pos (by omega), if_pos (by omega), rdI a i hlt, rdI b i (by omega), wrap_next i (by omega), longs_l0 a b hab hl k (i + 1) (by omega) (by omega)]
      have := drop_eq_step hlt (show i < b.length by omega)
      by_cases e : a[i] = b[i]
      · rw [if_pos e]
        congr 1
        rw [decide_eq_decide]
        exact ⟨fun h => this.2 ⟨e, h⟩, fun h => (this.1 h).2⟩
      · rw [if_neg e]
        congr 1
        symm
        exact decide_eq_false fun h => e (this.1 h).1
    · rw [if_neg (by omega), List.drop_eq_nil_of_le (by omega), List.drop_eq_nil_of_le (by omega)]
      rfl
theorem longs_eq (a b : List Int) (hl : a.length ≤ 1000) (k : Nat) (hk : 1002 ≤ k) : forecourtlaw05_longs.f k a b = some (decide (a = b)) := by
  unfold forecourtlaw05_longs.f
  by_cases h : (a.length : Int) = (b.length : Int)
  · rw [if_pos h]
    have := longs_l0 a b (by omega) hl k 0 (by omega) (by omega)
    rw [List.drop_zero, List.drop_zero] at this
    exact this
  · rw [if_neg h]
    congr 1
    symm
    exact decide_eq_false fun e => h (by rw [e])
theorem comeLen (step : Int → S58 → Int × Bool) (may : S58 → Bool) {n : Int} {l : List S58} (hy : YardOK n l) (hs : StepOK step l) {sv st : Int} (hst : 0 ≤ st ∧ st ≤ 100000) (hsv : 0 ≤ sv ∧ sv < n) : (runC step may n l sv st).1.length = 20 := by
  obtain ⟨rk, h⟩ := run_found may hy hs hst hsv
  exact h.len
theorem gc_take (c : List Int) (n v : Int) (h0 : 0 ≤ v) (h1 : v < n) : gc (c.take n.toNat) v = gc c v := by
  unfold gc
  rw [List.getD_eq_getElem?_getD, List.getD_eq_getElem?_getD, List.getElem?_take, if_pos (by omega)]
theorem may_all {n : Int} {l : List S58} (hy : YardOK n l) : ∀ m ∈ l, (fun _ : S58 => true) m = decide (m.f1 ≠ -1) := fun m hm => by
  have := hy.mv m hm
  exact (decide_eq_true (by omega)).symm
end Go.Proofs.Ytfhmepdbbhcncaa.P
