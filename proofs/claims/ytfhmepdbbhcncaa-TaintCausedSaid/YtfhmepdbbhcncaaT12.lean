import Derived.Test.YtfhmepdbbhcncaaT11
import Derived.Test.YtfhmepdbbhcncaaPf10
namespace Go.Proofs.Ytfhmepdbbhcncaa.P
open Go.RowKit Go.Proofs.YtfhmepdbbhcncaaW.PrintWords Go.Proofs.YtfhmepdbbhcncaaW.PrintLast Go.Proofs.YtfhmepdbbhcncaaW.PrintMore
set_option linter.unusedVariables false
set_option linter.unusedSimpArgs false

/-! TaintCaused. -/
theorem risesB_inc (len : Nat) : ∀ (sp : List Int) (last : Int), (∀ i ∈ sp, last < i ∧ i < (len : Int)) → sp.Pairwise (· < ·) → risesB len sp last = true
  | [], _, _, _ => rfl
  | i :: is, last, h, hp => by
    rw [List.pairwise_cons] at hp
    have := h i (List.mem_cons_self ..)
    rw [risesB, if_neg (by omega)]
    exact risesB_inc len is i (fun j hj => ⟨hp.1 j hj, (h j (List.mem_cons_of_mem _ hj)).2⟩) hp.2
/-- What the last start of a vessel says. -/
def hasF (v : Int) (st : List S26) (h : Int) : Int := st.foldl (fun h s => if s.f0 = v then s.f1 else h) h
theorem hasF_starts (up : List Int) (v : Nat) : ∀ k : Nat, hasF (v : Int) (startsT up k) (-1) = if v < k ∧ 0 ≤ up.getD v 0 then up.getD v 0 else -1
  | 0 => by
    rw [if_neg (by omega)]
    rfl
  | k + 1 => by
    have ih := hasF_starts up v k
    rw [startsT]
    by_cases hk : 0 ≤ up.getD k 0
    · rw [if_pos hk]
      unfold hasF at ih ⊢
      rw [List.foldl_append, ih, List.foldl_cons, List.foldl_nil]
      by_cases e : k = v
      · subst e
        rw [if_pos rfl, if_pos ⟨by omega, hk⟩]
      · rw [if_neg (by simp only; omega)]
        by_cases c : v < k ∧ 0 ≤ up.getD v 0
        · rw [if_pos c, if_pos ⟨by omega, c.2⟩]
        · rw [if_neg c, if_neg (fun h => c ⟨by omega, h.2⟩)]
    · rw [if_neg hk, ih]
      by_cases c : v < k ∧ 0 ≤ up.getD v 0
      · rw [if_pos c, if_pos ⟨by omega, c.2⟩]
      · rw [if_neg c, if_neg (fun h => c ⟨by
          have : v ≠ k := fun e => by
            subst e
            exact hk h.2
          omega, h.2⟩)]
theorem startsT_mem (up : List Int) : ∀ (k : Nat) (s : S26), s ∈ startsT up k → 0 ≤ s.f0 ∧ s.f0 < (k : Int) ∧ 0 ≤ s.f1 ∧ s.f1 = gc up s.f0
  | 0, s, h => by cases h
  | k + 1, s, h => by
    rw [startsT] at h
    by_cases hk : 0 ≤ up.getD k 0
    · rw [if_pos hk, List.mem_append, List.mem_singleton] at h
      rcases h with h | rfl
      · have := startsT_mem up k s h
        exact ⟨this.1, by omega, this.2.2⟩
      · exact ⟨by simp, by simp; omega, hk, rfl⟩
    · rw [if_neg hk] at h
      have := startsT_mem up k s h
      exact ⟨this.1, by omega, this.2.2⟩
theorem startsT_inc (up : List Int) : ∀ k : Nat, (startsT up k).Pairwise fun a b => a.f0 < b.f0
  | 0 => List.Pairwise.nil
  | k + 1 => by
    rw [startsT]
    split
    · rw [List.pairwise_append]
      refine ⟨startsT_inc up k, List.pairwise_singleton _ _, fun a ha b hb => ?_⟩
      rw [List.mem_singleton] at hb
      have := startsT_mem up k a ha
      subst hb
      exact this.2.1
    · exact startsT_inc up k
theorem rdS (l : List S26) (i : Nat) (h : i < l.length) : rd_T26 l (i : Int) = l[i] := by simp [rd_T26, List.getD, h]
section
variable {n : Int} {l : List S58} {sp : List Int}
theorem caused_l1 (hc : checkYard n l = 0) (hsp : ∀ i ∈ sp, 0 ≤ i ∧ i < (l.length : Int)) (hinc : sp.Pairwise (· < ·)) (hl : sp.length ≤ 1000) (st : List S26) (hst : st.length ≤ 1000) (x3 v : Int) (hp : st.Pairwise fun a b => a.f0 < b.f0)
    (hg : ∀ s ∈ st, (0 ≤ s.f0 ∧ s.f0 < n) ∧ (0 ≤ s.f1 ∧ s.f1 ≤ 100000) ∧ sp.all (carrB n l s.f0 s.f1) = true ∧ (s.f1 + 1 ≤ 100000 → sp.all (carrB n l s.f0 (s.f1 + 1)) = false)) (K0 : Nat) (hK0 : 1100 ≤ K0)
    (H : ∀ k, K0 ≤ k → forecourtlaw05_TaintCaused.l1 k x3 sp st v (hasF v st (-1)) (st.length : Int) n l = some true) : ∀ (d i k : Nat) (h : Int), st.length = i + d → K0 + 3 * d ≤ k → h = hasF v (st.take i) (-1) →
    forecourtlaw05_TaintCaused.l1 k x3 sp st v h (i : Int) n l = some true
  | 0, i, k, h, hi, hk, hh => by
    have : i = st.length := by omega
    subst this
    rw [List.take_length] at hh
    subst hh
    exact H k (by omega)
  | d + 1, i, k, h, hi, hk, hh => by
    obtain ⟨j, rfl⟩ : ∃ j, k = j + 3 := ⟨k - 3, by omega⟩
    have hlt : i < st.length := by omega
    have hy := yardOK hc
    have h2 := hy.len
    obtain ⟨g0, g1, g2, g3⟩ := hg st[i] (List.getElem_mem hlt)
    have ih := caused_l1 hc hsp hinc hl st hst x3 v hp hg K0 hK0 H d (i + 1) j (if st[i].f0 = v then st[i].f1 else h) (by omega) (by omega) (by
      rw [List.take_succ_eq_append_getElem hlt]
      unfold hasF at hh ⊢
      rw [List.foldl_append, ← hh]
      rfl)
    have hj3 : forecourtlaw05_TaintCaused.j3 (j + 2) x3 sp st v h (i : Int) false n l st[i].f0 st[i].f1 = some true := by
      rw [forecourtlaw05_TaintCaused.j3, if_neg (by simp), wrap_ok _ (by omega) (by omega)]
      have hj4 : forecourtlaw05_TaintCaused.j4 (j + 1) x3 sp st v h (i : Int) false n l st[i].f0 (st[i].f1 + 1) = some true := by
        rw [forecourtlaw05_TaintCaused.j4, if_neg (by simp), wrap_next i (by omega), wrap_ok _ (by omega) (by omega), show st[i].f1 + 1 - 1 = st[i].f1 by omega]
        by_cases e : st[i].f0 = v
        · rw [if_pos e]
          rw [if_pos e] at ih
          exact ih
        · rw [if_neg e]
          rw [if_neg e] at ih
          exact ih
      by_cases e : st[i].f1 + 1 ≤ 100000
      · rw [if_pos e, carriesP hc g0 ⟨by omega, e⟩ sp hsp hinc hl (j + 1) (by omega), Option.bind_some, g3 e]
        exact hj4
      · rw [if_neg e]
        exact hj4
    rw [forecourtlaw05_TaintCaused.l1, if_pos (by omega), if_pos (by omega), rdS st i hlt, refIsStart n l st[i].f0 st[i].f1 (by omega) (j + 2) (by omega), openOf hy hc g0 g1, Option.bind_some, if_pos rfl, carriesP hc g0 g1 sp hsp hinc hl (j + 2) (by omega), g2]
    by_cases hi0 : i = 0
    · rw [if_neg (by omega)]
      exact hj3
    · have ew : wrap64 ((i : Int) - 1) = ((i - 1 : Nat) : Int) := by
        rw [wrap_ok] <;> omega
      have hprev : st[i - 1].f0 < st[i].f0 := List.pairwise_iff_getElem.1 hp (i - 1) i (by omega) hlt (by omega)
      rw [if_pos (by omega), ew, if_pos (by omega), if_pos (by omega), rdS st (i - 1) (by omega), if_neg (by omega)]
      exact hj3
/-- What the list of spoilt moves is. -/
structure SpI (l : List S58) (i : Nat) (sp : List Int) : Prop where
  mem : ∀ x ∈ sp, 0 ≤ x ∧ x < (i : Int)
  inc : sp.Pairwise (· < ·)
  len : sp.length ≤ i
theorem caused_l0 (hl : l.length ≤ 1000) (x1 x2 x3 : Int) (K0 : Nat) (H : ∀ (sp : List Int) (k : Nat), SpI l l.length sp → K0 ≤ k → forecourtlaw05_TaintCaused.l0 k x1 x2 x3 sp (l.length : Int) n l = some true) : ∀ (d i k : Nat) (acc : List Int), l.length = i + d → K0 + d ≤ k → SpI l i acc →
    forecourtlaw05_TaintCaused.l0 k x1 x2 x3 acc (i : Int) n l = some true
  | 0, i, k, acc, hi, hk, ha => by
    have : i = l.length := by omega
    subst this
    exact H acc k ha (by omega)
  | d + 1, i, k, acc, hi, hk, ha => by
    obtain ⟨j, rfl⟩ : ∃ j, k = j + 1 := ⟨k - 1, by omega⟩
    have hlen := ha.len
    rw [forecourtlaw05_TaintCaused.l0, if_pos (by omega), if_pos (by omega), wrap_next i (by omega)]
    split
    · rw [if_pos (by omega)]
      refine caused_l0 hl x1 x2 x3 K0 H d (i + 1) j _ (by omega) (by omega) ⟨fun x hx => ?_, ?_, by simp; exact hlen⟩
      · rcases List.mem_append.1 hx with hx | hx
        · have := ha.mem x hx
          omega
        · rw [List.mem_singleton] at hx
          omega
      · rw [List.pairwise_append]
        refine ⟨ha.inc, List.pairwise_singleton _ _, fun a ha' b hb => ?_⟩
        rw [List.mem_singleton] at hb
        have := ha.mem a ha'
        omega
    · exact caused_l0 hl x1 x2 x3 K0 H d (i + 1) j acc (by omega) (by omega) ⟨fun x hx => by have := ha.mem x hx; omega, ha.inc, by omega⟩
theorem caused_end (hc : checkYard n l = 0) (x1 x2 x3 : Int) (h2 : 0 ≤ x2 ∧ x2 ≤ 255) (h3 : 0 ≤ x3 ∧ x3 ≤ 4294967295) (sp : List Int) (hsp : SpI l l.length sp) (k : Nat) (hk : 1500 ≤ k) : forecourtlaw05_TaintCaused.l0 k x1 x2 x3 sp (l.length : Int) n l = some true := by
  obtain ⟨j, rfl⟩ : ∃ j, k = j + 1 := ⟨k - 1, by omega⟩
  have hy := yardOK hc
  have hn1 := hy.n1
  have hn2 := hy.n2
  have hln := hy.len
  have hlen := hsp.len
  have hmem : ∀ i ∈ sp, 0 ≤ i ∧ i < (l.length : Int) := fun i hi => hsp.mem i hi
  rw [forecourtlaw05_TaintCaused.l0, if_neg (by omega), taint_Causes.f]
  by_cases h0 : sp.length = 0
  · have : causesF n l sp = some ([], 6) := by
      unfold causesF
      rw [if_neg (by omega), if_pos (.inl h0)]
    rw [this, Option.bind_some, if_pos (by omega)]
    rfl
  · have hr := risesB_inc l.length sp (-1) (fun i hi => by have := hmem i hi; omega) hsp.inc
    obtain ⟨up, hu, hR⟩ := cause_ex hy (fun e => h0 (by rw [e]; rfl)) hmem
    have : causesF n l sp = some (startsT up n.toNat, 0) := by
      unfold causesF
      rw [if_neg (by omega), if_neg (by omega), if_neg (by rw [hr]; simp), hu]
    rw [this, Option.bind_some, if_neg (by omega)]
    simp only [if_true]
    rw [if_neg (by omega), wrap_ok x2 (by omega) (by omega), Int.tmod_eq_emod_of_nonneg h2.1]
    have hv0 : 0 ≤ x2 % n := Int.emod_nonneg _ (by omega)
    have hv1 : x2 % n < n := Int.emod_lt_of_pos _ (by omega)
    generalize x2 % n = v at hv0 hv1
    have hsl := startsT_len up n.toNat
    have hgv : ∀ v, 0 ≤ v → v < 20 → gc up v ≤ 100000 ∧ -1 ≤ gc up v := fun v h0 h1 => by
      rcases hR.val v h0 h1 with e | ⟨m, hm, e⟩
      · omega
      · have := hy.mv m hm
        omega
    have hfin : hasF v (startsT up n.toNat) (-1) = gc up v := by
      have := hasF_starts up v.toNat n.toNat
      rw [show ((v.toNat : Nat) : Int) = v by omega] at this
      rw [this]
      have e : up.getD v.toNat 0 = gc up v := rfl
      rw [e]
      have := hgv v hv0 (by omega)
      split <;> omega
    refine caused_l1 hc hmem hsp.inc (by omega) (startsT up n.toNat) (by omega) x3 v (startsT_inc up n.toNat) (fun s hs => ?_) 1200 (by omega) (fun k hk => ?_) (startsT up n.toNat).length 0 j (-1) (by omega) (by omega) rfl
    · obtain ⟨s0, s1, s2, s3⟩ := startsT_mem up n.toNat s hs
      have hle := hgv s.f0 s0 (by omega)
      refine ⟨⟨s0, by omega⟩, ⟨s2, by omega⟩, (hR.iff s.f0 s.f1 s0 (by omega) s2 (by omega)).2 (by omega), fun h => ?_⟩
      cases e : sp.all (carrB n l s.f0 (s.f1 + 1)) with
      | false => rfl
      | true =>
        have := (hR.iff s.f0 (s.f1 + 1) s0 (by omega) (by omega) h).1 e
        omega
    · obtain ⟨q, rfl⟩ : ∃ q, k = q + 1 := ⟨k - 1, by omega⟩
      rw [forecourtlaw05_TaintCaused.l1, if_neg (by omega), forecourtlaw05_From.f, Option.bind_some, wrap_ok x3 (by omega) (by omega), Int.tmod_eq_emod_of_nonneg h3.1]
      have ht0 : 0 ≤ x3 % 100001 := Int.emod_nonneg _ (by omega)
      have ht1 : x3 % 100001 < 100001 := Int.emod_lt_of_pos _ (by omega)
      simp only
      generalize x3 % 100001 = t at ht0 ht1
      rw [carriesP hc ⟨hv0, hv1⟩ ⟨ht0, by omega⟩ sp hmem hsp.inc (by omega) q (by omega), Option.bind_some, hfin]
      have hiff := hR.iff v t hv0 hv1 ht0 (by omega)
      have : (sp.all (carrB n l v t) == decide (t ≤ gc up v)) = true := by
        rw [beq_iff_eq, Bool.eq_iff_iff, decide_eq_true_iff]
        exact hiff
      rw [if_pos this]
      rfl
end
end Go.Proofs.Ytfhmepdbbhcncaa.P
