import Derived.Test.YtfhmepdbbhcncaaT1
import Derived.Test.YtfhmepdbbhcncaaT7
import Derived.Test.YtfhmepdbbhcncaaPf37
import Derived.Test.YtfhmepdbbhcncaaPf38
namespace Go.Proofs.Ytfhmepdbbhcncaa.P
open Go.RowKit Go.Proofs.YtfhmepdbbhcncaaW.PrintWords Go.Proofs.YtfhmepdbbhcncaaW.PrintLast Go.Proofs.YtfhmepdbbhcncaaW.PrintMore
set_option linter.unusedVariables false
set_option linter.unusedSimpArgs false

/-! Trails that are given; what Sure returns. -/
theorem rdM {l : List S58} {i : Int} (h0 : 0 ≤ i) (h1 : i < (l.length : Int)) : rd_T58 l i ∈ l := by
  have := rdT l i.toNat (by omega)
  rw [show ((i.toNat : Nat) : Int) = i by omega] at this
  rw [this]
  exact List.getElem_mem _
theorem checkTrail_iff (n : Int) (l : List S58) (sv st v : Int) (tr : List Int) (sure : Bool) : checkTrailF n l sv st v tr sure = 0 ↔ (openE n l sv st [v] = 0 ∧ tr.length ≤ 40 ∧ (∀ i ∈ tr, 0 ≤ i ∧ i < (l.length : Int)) ∧ ∃ t, walkE (if sure then sureF else soonF) l tr sv st = some (v, t)) := by
  unfold checkTrailF
  by_cases h0 : openE n l sv st [v] = 0
  · rw [if_neg (show ¬ openE n l sv st [v] ≠ 0 by omega)]
    by_cases h1 : 40 < tr.length
    · rw [if_pos h1]
      exact ⟨fun h => absurd h (by decide), fun h => by omega⟩
    · rw [if_neg h1]
      by_cases h2 : tr.any (badIx l.length) = true
      · rw [if_pos h2]
        refine ⟨fun h => absurd h (by decide), fun h => ?_⟩
        obtain ⟨i, hi, hb⟩ := List.any_eq_true.1 h2
        have := h.2.2.1 i hi
        unfold badIx at hb
        simp only [Bool.or_eq_true, decide_eq_true_eq] at hb
        omega
      · rw [if_neg h2, walkT_E]
        have hix : ∀ i ∈ tr, 0 ≤ i ∧ i < (l.length : Int) := fun i hi => by
          have : badIx l.length i = false := by
            cases e : badIx l.length i with
            | false => rfl
            | true => exact absurd (List.any_eq_true.2 ⟨i, hi, e⟩) h2
          unfold badIx at this
          simp only [Bool.or_eq_false_iff, decide_eq_false_iff_not] at this
          omega
        cases hw : walkE (if sure then sureF else soonF) l tr sv st with
        | none =>
          refine ⟨fun h => absurd (show (16 : Int) = 0 from h) (by decide), fun h => ?_⟩
          obtain ⟨t, ht⟩ := h.2.2.2
          cases ht
        | some p =>
          simp only
          by_cases e : p.1 = v
          · rw [if_pos e]
            refine ⟨fun _ => ⟨h0, by omega, hix, p.2, ?_⟩, fun _ => rfl⟩
            rw [← e]
          · rw [if_neg e]
            refine ⟨fun h => absurd h (by decide), fun h => ?_⟩
            obtain ⟨t, ht⟩ := h.2.2.2
            injection ht with ht
            rw [ht] at e
            exact absurd rfl e
  · rw [if_pos h0]
    exact ⟨fun h => absurd h h0, fun h => absurd h.1 h0⟩
theorem walk_bnd {step : Int → S58 → Int × Bool} {l : List S58} (hs : StepOK step l) : ∀ (tr : List Int) (a t a' t' : Int), walkE step l tr a t = some (a', t') → (∀ i ∈ tr, 0 ≤ i ∧ i < (l.length : Int)) → t ≤ 100000 → t' ≤ 100000
  | [], a, t, a', t', h, _, ht => by
    simp only [walkE, Option.some.injEq, Prod.mk.injEq] at h
    omega
  | i :: is, a, t, a', t', h, hix, ht => by
    rw [walkE] at h
    by_cases hc : (rd_T58 l i).f0 ≠ a ∨ (step t (rd_T58 l i)).2 = false
    · rw [if_pos hc] at h; cases h
    · rw [if_neg hc] at h
      have hok : (step t (rd_T58 l i)).2 = true := by
        cases e : (step t (rd_T58 l i)).2 with
        | true => rfl
        | false => exact absurd (.inr e) hc
      have hi := hix i (List.mem_cons_self ..)
      exact walk_bnd hs is _ _ a' t' h (fun j hj => hix j (List.mem_cons_of_mem _ hj)) (hs.bnd _ (rdM hi.1 hi.2) _ hok)
theorem walk_sure {n : Int} {l : List S58} (hy : YardOK n l) : ∀ (tr : List Int) (a t t0 a' t' : Int), walkE sureF l tr a t = some (a', t') → (∀ i ∈ tr, 0 ≤ i ∧ i < (l.length : Int)) → t0 ≤ t → ∃ t1, walkE soonF l tr a t0 = some (a', t1) ∧ t1 ≤ t'
  | [], a, t, t0, a', t', h, _, ht => by
    simp only [walkE, Option.some.injEq, Prod.mk.injEq] at h
    obtain ⟨rfl, rfl⟩ := h
    exact ⟨t0, rfl, ht⟩
  | i :: is, a, t, t0, a', t', h, hix, ht => by
    rw [walkE] at h
    have hi := hix i (List.mem_cons_self ..)
    have hm := hy.mv _ (rdM hi.1 hi.2)
    by_cases hc : (rd_T58 l i).f0 ≠ a ∨ (sureF t (rd_T58 l i)).2 = false
    · rw [if_pos hc] at h; cases h
    · rw [if_neg hc] at h
      have hok : t ≤ (rd_T58 l i).f2.f0 := by
        cases e : (sureF t (rd_T58 l i)).2 with
        | true => exact of_decide_eq_true e
        | false => exact absurd (.inr e) hc
      have hf : (rd_T58 l i).f0 = a := Classical.byContradiction fun e => hc (.inl e)
      have hok2 : (soonF t0 (rd_T58 l i)).2 = true := decide_eq_true (by omega)
      rw [walkE, if_neg (by rw [hok2]; simp [hf])]
      exact walk_sure hy is _ _ _ a' t' h (fun j hj => hix j (List.mem_cons_of_mem _ hj)) (by simp only [soonF, sureF]; omega)
theorem sureT_mem (come : List Int) : ∀ (k : Nat) (x : Int), x ∈ sureT come k ↔ 0 ≤ x ∧ x < (k : Int) ∧ gc come x ≠ 1048576
  | 0, x => by
    rw [sureT]
    constructor
    · intro h; cases h
    · intro h; omega
  | k + 1, x => by
    have ih := sureT_mem come k x
    have eg : gc come (k : Int) = come.getD k 0 := rfl
    rw [sureT]
    by_cases hc : come.getD k 0 = 1048576
    · rw [if_pos hc, ih]
      constructor
      · intro h; exact ⟨h.1, by omega, h.2.2⟩
      · rintro ⟨h0, h1, h2⟩
        by_cases e : x = (k : Int)
        · subst e; exact absurd (eg.trans hc) h2
        · exact ⟨h0, by omega, h2⟩
    · rw [if_neg hc, List.mem_append, ih, List.mem_singleton]
      constructor
      · rintro (h | rfl)
        · exact ⟨h.1, by omega, h.2.2⟩
        · exact ⟨by omega, by omega, fun e => hc (eg.symm.trans e)⟩
      · rintro ⟨h0, h1, h2⟩
        by_cases e : x = (k : Int)
        · exact .inr e
        · exact .inl ⟨h0, by omega, h2⟩
theorem sureT_inc (come : List Int) : ∀ k, (sureT come k).Pairwise (· < ·)
  | 0 => List.Pairwise.nil
  | k + 1 => by
    rw [sureT]
    split
    · exact sureT_inc come k
    · rw [List.pairwise_append]
      refine ⟨sureT_inc come k, List.pairwise_singleton _ _, fun a ha b hb => ?_⟩
      rw [List.mem_singleton] at hb
      have := (sureT_mem come k a).1 ha
      omega
theorem rises_ok (len : Nat) : ∀ (sp : List Int) (last : Int), (∀ i ∈ sp, last < i ∧ i < (len : Int)) → sp.Pairwise (· < ·) → risesB len sp last = true
  | [], _, _, _ => rfl
  | i :: is, last, h, hp => by
    rw [List.pairwise_cons] at hp
    have := h i (List.mem_cons_self ..)
    rw [risesB, if_neg (by omega)]
    exact rises_ok len is i (fun j hj => ⟨hp.1 j hj, (h j (List.mem_cons_of_mem _ hj)).2⟩) hp.2
theorem rising_l0 (sp : List Int) (len : Nat) (hl : sp.length ≤ 1000) : ∀ (k i : Nat) (last : Int), sp.length < k + i → i ≤ sp.length → -1 ≤ last → (i = 0 → last = -1) → (∀ h : 0 < i, ∃ h2 : i - 1 < sp.length, last = sp[i - 1]) →
    forecourtref05_Rising.l0 k sp (len : Int) (i : Int) = some (risesB len (sp.drop i) last)
  | 0, i, last, h, hi, _, _, _ => by omega
  | k + 1, i, last, h, hi, hlast, h0, hp => by
    rw [forecourtref05_Rising.l0]
    by_cases hlt : i < sp.length
    · have e : sp.drop i = sp[i] :: sp.drop (i + 1) := List.drop_eq_getElem_cons hlt
      rw [if_pos (by omega), if_pos (by omega), rdI sp i hlt, e, risesB]
      by_cases a1 : sp[i] < 0
      · rw [if_pos a1, if_pos (Or.inl (by omega))]
      · rw [if_neg a1]
        by_cases a2 : sp[i] ≥ (len : Int)
        · rw [if_pos a2, if_pos (Or.inr a2)]
        · rw [if_neg a2, wrap_next i (by omega)]
          have ih : ¬ sp[i] ≤ last → forecourtref05_Rising.l0 k sp (len : Int) ((i + 1 : Nat) : Int) = some (if sp[i] ≤ last ∨ (len : Int) ≤ sp[i] then false else risesB len (sp.drop (i + 1)) sp[i]) := fun a3 => by
            rw [if_neg (by omega)]
            exact rising_l0 sp len hl k (i + 1) sp[i] (by omega) (by omega) (by omega) (fun h => absurd h (by omega)) (fun _ => ⟨by omega, rfl⟩)
          by_cases hi0 : i = 0
          · rw [if_neg (by omega)]
            exact ih (by have := h0 hi0; omega)
          · obtain ⟨hb, hl2⟩ := hp (by omega)
            have ew : wrap64 ((i : Int) - 1) = ((i - 1 : Nat) : Int) := by
              rw [wrap_ok] <;> omega
            rw [if_pos (by omega), ew, if_pos (by omega), if_pos (by omega), rdI sp (i - 1) hb, ← hl2]
            by_cases a3 : sp[i] ≤ last
            · rw [if_pos a3, if_pos (Or.inl a3)]
            · rw [if_neg a3]
              exact ih a3
    · rw [if_neg (by omega), List.drop_eq_nil_of_le (by omega)]
      rfl
/-- Rising, of a list that rises. -/
theorem rising_true (sp : List Int) (n : Int) (hl : sp.length ≤ 1000) (hmem : ∀ x ∈ sp, 0 ≤ x ∧ x < n) (hn : 0 ≤ n) (hinc : sp.Pairwise (· < ·)) (k : Nat) (hk : 1002 ≤ k) : forecourtref05_Rising.f k sp n = some true := by
  unfold forecourtref05_Rising.f
  have := rising_l0 sp n.toNat hl k 0 (-1) (by omega) (by omega) (by omega) (fun _ => rfl) (fun h => absurd h (by omega))
  rw [List.drop_zero, rises_ok n.toNat sp (-1) (fun i hi => by have := hmem i hi; omega) hinc, show ((n.toNat : Nat) : Int) = n by omega] at this
  exact this
theorem fine_eq (n : Int) (l : List S58) (sv st : Int) (k : Nat) (hk : 1002 ≤ k) : forecourtlaw05_fine.f k n l sv st = some (decide ((l.length : Int) ≤ 50) && decide (openE n l sv st [] = 0)) := by
  unfold forecourtlaw05_fine.f forecourtlaw05_great.f
  rw [Option.bind_some]
  by_cases h : (l.length : Int) > 50
  · rw [if_pos (decide_eq_true h), decide_eq_false (by omega), Bool.false_and]
  · rw [if_neg (by simp only [decide_eq_true_eq]; exact h), refIsStart n l sv st (by omega) k hk, Option.bind_some, decide_eq_true (by omega), Bool.true_and]
    rfl
theorem open_one {n : Int} {l : List S58} {sv st v : Int} (h : openE n l sv st [] = 0) (hv : 0 ≤ v ∧ v < n) : openE n l sv st [v] = 0 := by
  unfold openE at h ⊢
  have h1 : isV n v = true := by
    unfold isV
    simp only [Bool.and_eq_true, decide_eq_true_eq]
    exact hv
  by_cases h0 : checkYard n l ≠ 0
  · rw [if_pos h0] at h
    exact absurd h h0
  · rw [if_neg h0] at h ⊢
    by_cases h2 : isV n sv = false ∨ withinB 0 100000 [st] = false
    · rw [if_pos h2] at h
      cases h
    · rw [if_neg h2]
      simp [h1]
/-- What Sure returns, of a valid start. -/
structure SureR (n : Int) (l : List S58) (sv st : Int) (u : List Int) : Prop where
  mem : ∀ x, x ∈ u ↔ (0 ≤ x ∧ x < n) ∧ gc (runC sureF (fun _ => true) n l sv st).1 x ≠ 1048576
  inc : u.Pairwise (· < ·)
  len : u.length ≤ 20
theorem sureR {n : Int} {l : List S58} {sv st : Int} (h : openE n l sv st [] = 0) : SureR n l sv st (sureL n l sv st) := by
  obtain ⟨hy, hs, ht, _⟩ := open_parts h
  have h1 := hy.n1
  have h2 := hy.n2
  unfold sureL
  rw [if_pos h]
  refine ⟨fun x => ?_, sureT_inc _ _, ?_⟩
  · rw [sureT_mem]
    constructor
    · intro hx; exact ⟨⟨hx.1, by omega⟩, hx.2.2⟩
    · intro hx; exact ⟨hx.1.1, by omega, hx.2⟩
  · have := sureT_len (runC sureF (fun _ => true) n l sv st).1 n.toNat
    omega
theorem carT_mem (come : List Int) (l : List S58) : ∀ (k : Nat) (x : Int), x ∈ carT come l k ↔ 0 ≤ x ∧ x < (k : Int) ∧ gc come (rd_T58 l x).f0 ≤ (rd_T58 l x).f2.f1
  | 0, x => by
    rw [carT]
    constructor
    · intro h; cases h
    · intro h; omega
  | k + 1, x => by
    have ih := carT_mem come l k x
    have eg : l.getD k z58 = rd_T58 l (k : Int) := rfl
    rw [carT, eg]
    by_cases hc : come.getD (rd_T58 l (k : Int)).f0.toNat 0 ≤ (rd_T58 l (k : Int)).f2.f1
    · rw [if_pos hc, List.mem_append, ih, List.mem_singleton]
      constructor
      · rintro (h | rfl)
        · exact ⟨h.1, by omega, h.2.2⟩
        · exact ⟨by omega, by omega, hc⟩
      · rintro ⟨h0, h1, h2⟩
        by_cases e : x = (k : Int)
        · exact .inr e
        · exact .inl ⟨h0, by omega, h2⟩
    · rw [if_neg hc, ih]
      constructor
      · intro h
        exact ⟨h.1, by omega, h.2.2⟩
      · rintro ⟨h0, h1, h2⟩
        by_cases e : x = (k : Int)
        · subst e; exact absurd h2 hc
        · exact ⟨h0, by omega, h2⟩
theorem carT_inc (come : List Int) (l : List S58) : ∀ k, (carT come l k).Pairwise (· < ·)
  | 0 => List.Pairwise.nil
  | k + 1 => by
    rw [carT]
    split
    · rw [List.pairwise_append]
      refine ⟨carT_inc come l k, List.pairwise_singleton _ _, fun a ha b hb => ?_⟩
      rw [List.mem_singleton] at hb
      have := (carT_mem come l k a).1 ha
      omega
    · exact carT_inc come l k
end Go.Proofs.Ytfhmepdbbhcncaa.P
