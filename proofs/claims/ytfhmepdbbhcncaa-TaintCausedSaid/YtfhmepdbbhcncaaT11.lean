import Derived.Test.YtfhmepdbbhcncaaT10a
import Derived.Test.YtfhmepdbbhcncaaPf43
namespace Go.Proofs.Ytfhmepdbbhcncaa.P
open Go.RowKit Go.Proofs.YtfhmepdbbhcncaaW.PrintWords Go.Proofs.YtfhmepdbbhcncaaW.PrintLast Go.Proofs.YtfhmepdbbhcncaaW.PrintMore
set_option linter.unusedVariables false
set_option linter.unusedSimpArgs false

/-! carries: whether some moves, increasing, are all among those of Carried. -/
def subB : List Int → List Int → Bool
  | _, [] => true
  | [], _ :: _ => false
  | c :: cs, s :: ss => if c = s then subB cs ss else subB cs (s :: ss)
theorem subB_iff : ∀ (cs ss : List Int), cs.Pairwise (· < ·) → ss.Pairwise (· < ·) → (subB cs ss = true ↔ ∀ s ∈ ss, s ∈ cs)
  | [], [], _, _ => by simp [subB]
  | c :: cs, [], _, _ => by simp [subB]
  | [], s :: ss, _, _ => by
    rw [subB]
    constructor
    · intro h; cases h
    · intro h
      have := h s (List.mem_cons_self ..)
      cases this
  | c :: cs, s :: ss, hc, hs => by
    rw [List.pairwise_cons] at hc
    have hs' := List.pairwise_cons.1 hs
    rw [subB]
    by_cases e : c = s
    · rw [if_pos e, subB_iff cs ss hc.2 hs'.2]
      subst e
      constructor
      · intro h x hx
        rcases List.mem_cons.1 hx with rfl | hx
        · exact List.mem_cons_self ..
        · exact List.mem_cons_of_mem _ (h x hx)
      · intro h x hx
        have := hs'.1 x hx
        rcases List.mem_cons.1 (h x (List.mem_cons_of_mem _ hx)) with rfl | h
        · omega
        · exact h
    · rw [if_neg e, subB_iff cs (s :: ss) hc.2 hs]
      constructor
      · intro h x hx
        exact List.mem_cons_of_mem _ (h x hx)
      · intro h x hx
        rcases List.mem_cons.1 (h x hx) with rfl | h2
        · exfalso
          rcases List.mem_cons.1 (h s (List.mem_cons_self ..)) with e2 | h3
          · exact e e2.symm
          · have := hc.1 s h3
            rcases List.mem_cons.1 hx with e3 | h4
            · omega
            · have := hs'.1 _ h4
              omega
        · exact h2
theorem carriesP_l0 (sp c : List Int) (hs : sp.length ≤ 1000) (hc : c.length ≤ 1000) : ∀ (d i k at_ : Nat), c.length = i + d → 2 * d + 2 ≤ k → at_ ≤ sp.length → forecourtlaw05_carries.l0 k sp c 0 (at_ : Int) (i : Int) = some (subB (c.drop i) (sp.drop at_))
  | 0, i, k, at_, hi, hk, ha => by
    obtain ⟨j, rfl⟩ : ∃ j, k = j + 2 := ⟨k - 2, by omega⟩
    rw [forecourtlaw05_carries.l0, if_neg (by omega), forecourtlaw05_carries.j1, if_neg (by simp), if_pos rfl, List.drop_eq_nil_of_le (by omega)]
    by_cases e : at_ = sp.length
    · subst e
      rw [List.drop_length]
      simp [subB]
    · have hlt : at_ < sp.length := by omega
      rw [List.drop_eq_getElem_cons hlt, subB]
      congr 1
      rw [beq_eq_false_iff_ne]
      omega
  | d + 1, i, k, at_, hi, hk, ha => by
    obtain ⟨j, rfl⟩ : ∃ j, k = j + 2 := ⟨k - 2, by omega⟩
    have hlt : i < c.length := by omega
    rw [forecourtlaw05_carries.l0, if_pos (by omega), forecourtlaw05_carries.j1]
    by_cases h2 : at_ < sp.length
    · rw [if_pos (decide_eq_true (by omega)), if_pos (by omega), if_pos (by omega), if_pos (by omega), if_pos (by omega), rdI c i hlt, rdI sp at_ h2, wrap_next i (by omega), wrap_next at_ (by omega), List.drop_eq_getElem_cons hlt, List.drop_eq_getElem_cons h2, subB]
      by_cases e : c[i] = sp[at_]
      · rw [if_pos e, if_pos e]
        exact carriesP_l0 sp c hs hc d (i + 1) j (at_ + 1) (by omega) (by omega) (by omega)
      · rw [if_neg e, if_neg e, ← List.drop_eq_getElem_cons h2]
        exact carriesP_l0 sp c hs hc d (i + 1) j at_ (by omega) (by omega) ha
    · have e : at_ = sp.length := by omega
      subst e
      rw [if_neg (by simp), if_pos rfl, List.drop_length]
      cases c.drop i <;> simp [subB]
theorem carT_mem (come : List Int) (l : List S58) : ∀ (k : Nat) (x : Int), x ∈ carT come l k ↔ 0 ≤ x ∧ x < (k : Int) ∧ gc come (rd_T58 l x).f0 ≤ (rd_T58 l x).f2.f1
  | 0, x => by
    rw [carT]
    constructor
    · intro h; cases h
    · intro h; omega
  | k + 1, x => by
    have ih := carT_mem come l k x
    have eg : l.getD k z58 = rd_T58 l (k : Int) := rfl
    rw [carT, eg]
    by_cases hc : come.getD (rd_T58 l (k : Int)).f0.toNat 0 ≤ (rd_T58 l (k : Int)).f2.f1
    · rw [if_pos hc, List.mem_append, ih, List.mem_singleton]
      constructor
      · rintro (h | rfl)
        · exact ⟨h.1, by omega, h.2.2⟩
        · exact ⟨by omega, by omega, hc⟩
      · rintro ⟨h0, h1, h2⟩
        by_cases e : x = (k : Int)
        · exact .inr e
        · exact .inl ⟨h0, by omega, h2⟩
    · rw [if_neg hc, ih]
      constructor
      · intro h
        exact ⟨h.1, by omega, h.2.2⟩
      · rintro ⟨h0, h1, h2⟩
        by_cases e : x = (k : Int)
        · subst e; exact absurd h2 hc
        · exact ⟨h0, by omega, h2⟩
theorem carT_inc (come : List Int) (l : List S58) : ∀ k, (carT come l k).Pairwise (· < ·)
  | 0 => List.Pairwise.nil
  | k + 1 => by
    rw [carT]
    split
    · rw [List.pairwise_append]
      refine ⟨carT_inc come l k, List.pairwise_singleton _ _, fun a ha b hb => ?_⟩
      rw [List.mem_singleton] at hb
      have := (carT_mem come l k a).1 ha
      omega
    · exact carT_inc come l k
theorem openOf {n : Int} {l : List S58} (hy : YardOK n l) (hc : checkYard n l = 0) {v t : Int} (hv : 0 ≤ v ∧ v < n) (ht : 0 ≤ t ∧ t ≤ 100000) : openE n l v t [] = 0 := by
  unfold openE
  have h1 : isV n v = true := by
    unfold isV
    simp only [Bool.and_eq_true, decide_eq_true_eq]
    exact hv
  have h2 : withinB 0 100000 [t] = true := by
    unfold withinB
    simp only [List.all_cons, List.all_nil, Bool.and_true, Bool.and_eq_true, decide_eq_true_eq]
    exact ht
  rw [if_neg (by omega), if_neg (by rw [h1, h2]; simp)]
  rfl
/-- carries, of a valid start. -/
theorem carriesP {n : Int} {l : List S58} (hc : checkYard n l = 0) {v t : Int} (hv : 0 ≤ v ∧ v < n) (ht : 0 ≤ t ∧ t ≤ 100000) (sp : List Int) (hsp : ∀ i ∈ sp, 0 ≤ i ∧ i < (l.length : Int)) (hinc : sp.Pairwise (· < ·)) (hl : sp.length ≤ 1000) (k : Nat) (hk : 200 ≤ k) :
    forecourtlaw05_carries.f k n l v t sp = some (sp.all (carrB n l v t)) := by
  have hy := yardOK hc
  have h0 := openOf hy hc hv ht
  have h3 := hy.len
  unfold forecourtlaw05_carries.f
  rw [taint_Carried.f, Option.bind_some, h0]
  unfold carL
  rw [if_pos h0]
  have hlen := carT_len (runC soonF (fun _ => true) n l v t).1 l l.length
  have := carriesP_l0 sp (carT (runC soonF (fun _ => true) n l v t).1 l l.length) hl (by omega) _ 0 k 0 (Nat.zero_add _).symm (by omega) (Nat.zero_le _)
  rw [List.drop_zero, List.drop_zero] at this
  refine Eq.trans this ?_
  congr 1
  rw [Bool.eq_iff_iff, subB_iff _ _ (carT_inc _ _ _) hinc, List.all_eq_true]
  constructor
  · intro h i hi
    exact decide_eq_true ((carT_mem _ _ _ _).1 (h i hi)).2.2
  · intro h i hi
    exact (carT_mem _ _ _ _).2 ⟨(hsp i hi).1, (hsp i hi).2, of_decide_eq_true (h i hi)⟩
end Go.Proofs.Ytfhmepdbbhcncaa.P
