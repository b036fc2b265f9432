import Derived.Test.YtfhmepdbbhcncaaE12
namespace Go.Proofs.Ytfhmepdbbhcncaa.P
open Go.RowKit Go.Proofs.YtfhmepdbbhcncaaW.PrintWords Go.Proofs.YtfhmepdbbhcncaaW.PrintLast Go.Proofs.YtfhmepdbbhcncaaW.PrintMore
set_option linter.unusedVariables false
set_option linter.unusedSimpArgs false

/-! The search by the first one, and what it finds: the greatest times that are right. -/
/-- The time of a vessel. -/
def gc (c : List Int) (v : Int) : Int := c.getD v.toNat 0
theorem gc_set (c : List Int) (u v t : Int) (hu : 0 ≤ u) (hv : 0 ≤ v) (hl : v.toNat < c.length) : gc (c.set u.toNat t) v = if v = u then t else gc c v := by
  unfold gc
  by_cases h : v = u
  · subst h; simp [List.getD, hl]
  · have : u.toNat ≠ v.toNat := by omega
    rw [if_neg h, List.getD_eq_getElem?_getD, List.getD_eq_getElem?_getD, List.getElem?_set_ne this]
/-- What a step by a move does. -/
structure StepOK (step : Int → S58 → Int × Bool) (l : List S58) : Prop where
  mono : ∀ m ∈ l, ∀ t t', t ≤ t' → (step t' m).2 = true → (step t m).2 = true ∧ (step t m).1 ≤ (step t' m).1
  infl : ∀ m ∈ l, ∀ t, (step t m).2 = true → t ≤ (step t m).1
  bnd : ∀ m ∈ l, ∀ t, (step t m).2 = true → (step t m).1 ≤ 100000
theorem StepOK.soon {n : Int} {l : List S58} (hy : YardOK n l) : StepOK soonF l where
  mono := fun m hm t t' h ok => by
    simp only [soonF, decide_eq_true_eq] at ok ⊢
    omega
  infl := fun m hm t ok => by simp only [soonF]; omega
  bnd := fun m hm t ok => by
    have := hy.mv m hm
    simp only [soonF, decide_eq_true_eq] at ok ⊢
    omega
theorem StepOK.sure {n : Int} {l : List S58} (hy : YardOK n l) : StepOK sureF l where
  mono := fun m hm t t' h ok => by
    simp only [sureF, decide_eq_true_eq] at ok ⊢
    omega
  infl := fun m hm t ok => by
    have := hy.mv m hm
    simp only [sureF, decide_eq_true_eq] at ok ⊢
    omega
  bnd := fun m hm t ok => by
    have := hy.mv m hm
    simp only [sureF, decide_eq_true_eq] at ok ⊢
    omega
theorem leastF_le (f : Int → Int) : ∀ (xs : List Int) (x y : Int), y ∈ x :: xs → f (xs.foldl (leastStep f) x) ≤ f y
  | [], x, y, h => by
    rw [List.mem_singleton] at h; subst h; exact Int.le_refl _
  | z :: zs, x, y, h => by
    rw [List.foldl_cons]
    have hb : f (leastStep f x z) ≤ f x ∧ f (leastStep f x z) ≤ f z := by
      unfold leastStep
      split <;> omega
    have hr := leastF_le f zs (leastStep f x z) (leastStep f x z) (List.mem_cons_self ..)
    rcases List.mem_cons.1 h with rfl | h
    · omega
    · rcases List.mem_cons.1 h with rfl | h
      · omega
      · exact leastF_le f zs _ y (List.mem_cons_of_mem _ h)
theorem leastF_in (f : Int → Int) (left : List Int) (h : left ≠ []) : leastF f left ∈ left ∧ ∀ y ∈ left, f (leastF f left) ≤ f y := by
  cases left with
  | nil => exact absurd rfl h
  | cons x xs => exact ⟨leastF_mem f xs x, fun y hy => leastF_le f xs x y hy⟩
/-- While the moves out of v are made. -/
structure FI (step : Int → S58 → Int × Bool) (may : S58 → Bool) (l : List S58) (v : Int) (left : List Int) (c0 : List Int) (b0 : Int → Option Int) (k : Nat) (s : List Int × (Int → Option Int)) : Prop where
  len : s.1.length = 20
  le : ∀ w, 0 ≤ w → w < 20 → gc s.1 w ≤ gc c0 w
  same : ∀ w, 0 ≤ w → w < 20 → w ∉ left → gc s.1 w = gc c0 w
  src : ∀ w, 0 ≤ w → w < 20 → (gc s.1 w = gc c0 w ∧ s.2 w = b0 w) ∨ ∃ i, ∃ h : i < l.length, l[i].f0 = v ∧ l[i].f1 = w ∧ may l[i] = true ∧ (step (gc c0 v) l[i]).2 = true ∧ gc s.1 w = (step (gc c0 v) l[i]).1 ∧ s.2 w = some (i : Int) ∧ w ∈ left
  clo : ∀ i (h : i < l.length), i < k → l[i].f0 = v → may l[i] = true → (step (gc c0 v) l[i]).2 = true → gc s.1 l[i].f1 ≤ (step (gc c0 v) l[i]).1
theorem fold_FI {step : Int → S58 → Int × Bool} {may : S58 → Bool} {n : Int} {l : List S58} (hy : YardOK n l) (hs : StepOK step l) {v : Int} {left : List Int} {c0 : List Int} {b0 : Int → Option Int} (hc : c0.length = 20)
    (hv0 : 0 ≤ v) (hv1 : v < n) (hvl : v ∉ left) (hlow : ∀ w, 0 ≤ w → w < n → w ∉ left → gc c0 w ≤ gc c0 v) : ∀ k, k ≤ l.length → FI step may l v left c0 b0 k ((outsTo v l k).foldl (bodyF step may v) (c0, b0))
  | 0, _ => ⟨hc, fun _ _ _ => Int.le_refl _, fun _ _ _ _ => rfl, fun _ _ _ => .inl ⟨rfl, rfl⟩, fun i _ h => absurd h (Nat.not_lt_zero _)⟩
  | k + 1, hk => by
    have ih := fold_FI (may := may) (b0 := b0) hy hs hc hv0 hv1 hvl hlow k (by omega)
    rw [outsTo, List.foldl_append]
    have eg : l.getD k z58 = l[k] := by simp [List.getD, show k < l.length by omega]
    rw [eg]
    generalize (outsTo v l k).foldl (bodyF step may v) (c0, b0) = s at ih
    have hn := hy.n2
    have hm := hy.mv l[k] (List.getElem_mem (by omega))
    by_cases hf : l[k].f0 = v
    · rw [if_pos hf, List.foldl_cons, List.foldl_nil]
      have eg2 : s.1.getD v.toNat 0 = gc c0 v := ih.same v hv0 (by omega) hvl
      unfold bodyF
      simp only
      rw [eg2]
      split
      · rename_i hcond
        obtain ⟨hok, hmay, hlt⟩ := hcond
        have hlt' : (step (gc c0 v) l[k]).1 < gc s.1 l[k].f1 := hlt
        have hin : l[k].f1 ∈ left := by
          cases Classical.em (l[k].f1 ∈ left) with
          | inl h => exact h
          | inr h =>
            have h1 := ih.same l[k].f1 (by omega) (by omega) h
            have h2 := hlow l[k].f1 (by omega) (by omega) h
            have h3 := hs.infl l[k] (List.getElem_mem (by omega)) _ hok
            omega
        have hg : ∀ w, 0 ≤ w → w < 20 → gc (s.1.set l[k].f1.toNat (step (gc c0 v) l[k]).1) w = if w = l[k].f1 then (step (gc c0 v) l[k]).1 else gc s.1 w := fun w h0 h1 =>
          gc_set s.1 l[k].f1 w _ (by omega) h0 (by rw [ih.len]; omega)
        refine ⟨by simp [ih.len], fun w h0 h1 => ?_, fun w h0 h1 hw => ?_, fun w h0 h1 => ?_, fun i hi hik hf0 hm2 hok2 => ?_⟩
        · have := ih.le w h0 h1
          simp only [hg w h0 h1]
          split
          · rename_i e; subst e; omega
          · exact this
        · have hne : w ≠ l[k].f1 := fun e => hw (e ▸ hin)
          simp only [hg w h0 h1]
          rw [if_neg hne]
          exact ih.same w h0 h1 hw
        · by_cases e : w = l[k].f1
          · subst e
            exact .inr ⟨k, by omega, hf, rfl, hmay, hok, by simp only [hg _ h0 h1]; simp, by simp, hin⟩
          · simp only [hg w h0 h1, if_neg e]
            exact ih.src w h0 h1
        · have hmi := hy.mv l[i] (List.getElem_mem hi)
          simp only [hg l[i].f1 (by omega) (by omega)]
          by_cases hie : i = k
          · subst hie; simp
          · have := ih.clo i hi (by omega) hf0 hm2 hok2
            split
            · rename_i e
              rw [e] at this
              omega
            · exact this
      · rename_i hcond
        refine ⟨ih.len, ih.le, ih.same, ih.src, fun i hi hik hf0 hm2 hok2 => ?_⟩
        by_cases hie : i = k
        · subst hie
          cases Int.lt_or_le (step (gc c0 v) l[i]).1 (gc s.1 l[i].f1) with
          | inl h => exact absurd ⟨hok2, hm2, h⟩ hcond
          | inr h => exact h
        · exact ih.clo i hi (by omega) hf0 hm2 hok2
    · rw [if_neg hf, List.foldl_nil]
      refine ⟨ih.len, ih.le, ih.same, ih.src, fun i hi hik hf0 hm2 hok2 => ?_⟩
      by_cases hie : i = k
      · subst hie; exact absurd hf0 hf
      · exact ih.clo i hi (by omega) hf0 hm2 hok2
/-- Between the rounds of the search. -/
structure DI (step : Int → S58 → Int × Bool) (may : S58 → Bool) (n : Int) (l : List S58) (sv st : Int) (left : List Int) (s : List Int × (Int → Option Int)) (rk : Int → Nat) : Prop where
  len : s.1.length = 20
  sub : ∀ v ∈ left, 0 ≤ v ∧ v < n
  cnt : left.length ≤ n.toNat
  rng : ∀ v, 0 ≤ v → v < n → (0 ≤ gc s.1 v ∧ gc s.1 v ≤ 100000) ∨ gc s.1 v = 1048576
  own : gc s.1 sv = st
  low : ∀ v, 0 ≤ v → v < n → st ≤ gc s.1 v
  mon : ∀ u v, 0 ≤ u → u < n → u ∉ left → v ∈ left → gc s.1 u ≤ gc s.1 v
  fin : ∀ u, 0 ≤ u → u < n → u ∉ left → gc s.1 u ≠ 1048576
  clo : ∀ m ∈ l, m.f0 ∉ left → may m = true → (step (gc s.1 m.f0) m).2 = true → gc s.1 m.f1 ≤ (step (gc s.1 m.f0) m).1
  sup : ∀ v, 0 ≤ v → v < n → gc s.1 v ≠ 1048576 → v ≠ sv → ∃ i, ∃ h : i < l.length, s.2 v = some (i : Int) ∧ l[i].f1 = v ∧ may l[i] = true ∧ l[i].f0 ∉ left ∧ (step (gc s.1 l[i].f0) l[i]).2 = true ∧ gc s.1 v = (step (gc s.1 l[i].f0) l[i]).1 ∧ (v ∉ left → rk l[i].f0 < rk v)
  rkb : ∀ v, 0 ≤ v → v < n → v ∉ left → rk v + left.length < n.toNat
/-- What the search has found. -/
structure Found (step : Int → S58 → Int × Bool) (may : S58 → Bool) (n : Int) (l : List S58) (sv st : Int) (s : List Int × (Int → Option Int)) (rk : Int → Nat) : Prop where
  len : s.1.length = 20
  rng : ∀ v, 0 ≤ v → v < n → (0 ≤ gc s.1 v ∧ gc s.1 v ≤ 100000) ∨ gc s.1 v = 1048576
  own : gc s.1 sv = st
  low : ∀ v, 0 ≤ v → v < n → st ≤ gc s.1 v
  clo : ∀ m ∈ l, may m = true → (step (gc s.1 m.f0) m).2 = true → gc s.1 m.f1 ≤ (step (gc s.1 m.f0) m).1
  sup : ∀ v, 0 ≤ v → v < n → gc s.1 v ≠ 1048576 → v ≠ sv → ∃ i, ∃ h : i < l.length, s.2 v = some (i : Int) ∧ l[i].f1 = v ∧ may l[i] = true ∧ gc s.1 l[i].f0 ≠ 1048576 ∧ (step (gc s.1 l[i].f0) l[i]).2 = true ∧ gc s.1 v = (step (gc s.1 l[i].f0) l[i]).1 ∧ rk l[i].f0 < rk v
  rkb : ∀ v, 0 ≤ v → v < n → gc s.1 v ≠ 1048576 → rk v < n.toNat
theorem DI.found {step : Int → S58 → Int × Bool} {may : S58 → Bool} {n : Int} {l : List S58} (hy : YardOK n l) (hs : StepOK step l) {sv st : Int} {left : List Int} {s : List Int × (Int → Option Int)} {rk : Int → Nat}
    (h : DI step may n l sv st left s rk) (hl : ∀ v ∈ left, gc s.1 v = 1048576) : Found step may n l sv st s rk := by
  have hnot : ∀ v, gc s.1 v ≠ 1048576 → v ∉ left := fun v hv hm => hv (hl v hm)
  refine ⟨h.len, h.rng, h.own, h.low, fun m hm hmay hok => ?_, fun v h0 h1 hv hne => ?_, fun v h0 h1 hv => ?_⟩
  · refine h.clo m hm (fun hin => ?_) hmay hok
    have e := hl _ hin
    have h1 := hs.infl m hm _ hok
    have h2 := hs.bnd m hm _ hok
    omega
  · obtain ⟨i, hi, hb, hf, hmay, hnl, hok, hg, hr⟩ := h.sup v h0 h1 hv hne
    have hm := hy.mv l[i] (List.getElem_mem hi)
    exact ⟨i, hi, hb, hf, hmay, h.fin _ (by omega) (by omega) hnl, hok, hg, hr (hnot v hv)⟩
  · have := h.rkb v h0 h1 (hnot v hv)
    omega
theorem DI.step {step : Int → S58 → Int × Bool} {may : S58 → Bool} {n : Int} {l : List S58} (hy : YardOK n l) (hs : StepOK step l) {sv st : Int} (hst : 0 ≤ st) (hsv : 0 ≤ sv ∧ sv < n) {left : List Int} {s : List Int × (Int → Option Int)} {rk : Int → Nat}
    (h : DI step may n l sv st left s rk) {v : Int} (hv : v ∈ left) (hmin : ∀ y ∈ left, gc s.1 v ≤ gc s.1 y) (hne : gc s.1 v ≠ 1048576) :
    DI step may n l sv st (left.filter fun o => !(o == v)) ((outsTo v l l.length).foldl (bodyF step may v) s) (fun w => if w = v then n.toNat - left.length else rk w) := by
  have hv' := h.sub v hv
  have hn := hy.n2
  have hmem : ∀ w, w ∈ (left.filter fun o => !(o == v)) ↔ w ∈ left ∧ w ≠ v := fun w => by simp
  have hnv : v ∉ (left.filter fun o => !(o == v)) := fun hh => ((hmem v).1 hh).2 rfl
  have hout : ∀ w, w ∉ (left.filter fun o => !(o == v)) → w ∉ left ∨ w = v := fun w hw => by
    cases Classical.em (w = v) with
    | inl e => exact .inr e
    | inr e => exact .inl fun hh => hw ((hmem w).2 ⟨hh, e⟩)
  have hlow : ∀ w, 0 ≤ w → w < n → w ∉ (left.filter fun o => !(o == v)) → gc s.1 w ≤ gc s.1 v := fun w h0 h1 hw => by
    rcases hout w hw with hw | rfl
    · exact h.mon w v h0 h1 hw hv
    · exact Int.le_refl _
  have hlen : (left.filter fun o => !(o == v)).length < left.length := by
    have h1 := List.length_filter_le (fun o => !(o == v)) left
    have h2 : (left.filter fun o => !(o == v)).length ≠ left.length := fun e => by
      have := (List.length_filter_eq_length_iff.1 e) v hv
      simp at this
    omega
  have F := fold_FI (may := may) (b0 := s.2) hy hs (c0 := s.1) h.len hv'.1 hv'.2 hnv hlow l.length (Nat.le_refl _)
  have es : (s.1, s.2) = s := rfl
  rw [es] at F
  have hcnt := h.cnt
  generalize (outsTo v l l.length).foldl (bodyF step may v) s = s' at F
  have hgev : ∀ w, 0 ≤ w → w < n → gc s'.1 w ≠ gc s.1 w → gc s.1 v ≤ gc s'.1 w ∧ gc s'.1 w ≤ 100000 := fun w h0 h1 hd => by
    rcases F.src w h0 (by omega) with ⟨e, _⟩ | ⟨i, hi, _, _, _, hok, hg, _, _⟩
    · exact absurd e hd
    · have h1 := hs.infl l[i] (List.getElem_mem hi) _ hok
      have h2 := hs.bnd l[i] (List.getElem_mem hi) _ hok
      omega
  have hvr : 0 ≤ gc s.1 v := by
    rcases h.rng v hv'.1 hv'.2 with e | e <;> omega
  refine ⟨F.len, fun w hw => h.sub w ((hmem w).1 hw).1, by omega, fun w h0 h1 => ?_, ?_, fun w h0 h1 => ?_, fun u w h0 h1 hu hw => ?_, fun u h0 h1 hu => ?_, fun m hm hf hmay hok => ?_, fun w h0 h1 hw hws => ?_, fun w h0 h1 hw => ?_⟩
  · by_cases e : gc s'.1 w = gc s.1 w
    · rw [e]; exact h.rng w h0 h1
    · have := hgev w h0 h1 e
      exact .inl (by omega)
  · have h1 := F.le sv hsv.1 (by omega)
    have h2 := h.own
    have h3 := h.low v hv'.1 hv'.2
    by_cases e : gc s'.1 sv = gc s.1 sv
    · omega
    · have := hgev sv hsv.1 hsv.2 e
      omega
  · have h3 := h.low v hv'.1 hv'.2
    by_cases e : gc s'.1 w = gc s.1 w
    · rw [e]; exact h.low w h0 h1
    · have := hgev w h0 h1 e
      omega
  · have hw' := (hmem w).1 hw
    have hwr := h.sub w hw'.1
    have e1 := F.same u h0 (by omega) hu
    have e2 := hlow u h0 h1 hu
    by_cases e : gc s'.1 w = gc s.1 w
    · have := hmin w hw'.1
      omega
    · have := hgev w hwr.1 hwr.2 e
      omega
  · rw [F.same u h0 (by omega) hu]
    rcases hout u hu with hu | rfl
    · exact h.fin u h0 h1 hu
    · exact hne
  · have hmm := hy.mv m hm
    rw [F.same m.f0 (by omega) (by omega) hf] at hok ⊢
    rcases hout m.f0 hf with hf' | hf'
    · have h1 := h.clo m hm hf' hmay hok
      have h2 := F.le m.f1 (by omega) (by omega)
      omega
    · obtain ⟨i, hi, rfl⟩ := List.getElem_of_mem hm
      rw [hf'] at hok ⊢
      exact F.clo i hi hi hf' hmay hok
  · rcases F.src w h0 (by omega) with ⟨e, eb⟩ | ⟨i, hi, hf, ht, hmay, hok, hg, hb, hin⟩
    · obtain ⟨i, hi, hb, hf, hmay, hnl, hok, hg, hr⟩ := h.sup w h0 h1 (by rw [← e]; exact hw) hws
      have hm := hy.mv l[i] (List.getElem_mem hi)
      have hnl' : l[i].f0 ∉ (left.filter fun o => !(o == v)) := fun hh => hnl ((hmem _).1 hh).1
      have esame := F.same l[i].f0 (by omega) (by omega) hnl'
      have hnev : l[i].f0 ≠ v := fun e => hnl (e ▸ hv)
      refine ⟨i, hi, eb.trans hb, hf, hmay, hnl', by rw [esame]; exact hok, by rw [esame, e]; exact hg, fun hwl => ?_⟩
      rw [if_neg hnev]
      rcases hout w hwl with hw3 | rfl
      · by_cases ew : w = v
        · subst ew; exact absurd hv hw3
        · rw [if_neg ew]; exact hr hw3
      · rw [if_pos rfl]
        have := h.rkb l[i].f0 (by omega) (by omega) hnl
        omega
    · have esame := F.same v hv'.1 (by omega) hnv
      refine ⟨i, hi, hb, ht, hmay, by rw [hf]; exact hnv, by rw [hf, esame]; exact hok, by rw [hf, esame]; exact hg, fun hwl => absurd hin hwl⟩
  · rcases hout w hw with hw' | rfl
    · by_cases ew : w = v
      · subst ew; exact absurd hv hw'
      · have := h.rkb w h0 h1 hw'
        rw [if_neg ew]
        omega
    · rw [if_pos rfl]
      omega
theorem runL_found {step : Int → S58 → Int × Bool} {may : S58 → Bool} {n : Int} {l : List S58} (hy : YardOK n l) (hs : StepOK step l) {sv st : Int} (hst : 0 ≤ st) (hsv : 0 ≤ sv ∧ sv < n) :
    ∀ (k : Nat) (left : List Int) (s : List Int × (Int → Option Int)) (rk : Int → Nat), DI step may n l sv st left s rk → left.length ≤ k → ∃ rk', Found step may n l sv st (runL step may l k left s) rk'
  | 0, left, s, rk, h, hk => by
    have : left = [] := List.length_eq_zero_iff.1 (by omega)
    subst this
    exact ⟨rk, h.found hy hs (fun v hv => by cases hv)⟩
  | k + 1, left, s, rk, h, hk => by
    rw [runL]
    by_cases hl : left = []
    · rw [if_pos hl]
      subst hl
      exact ⟨rk, h.found hy hs (fun v hv => by cases hv)⟩
    · rw [if_neg hl]
      have hin := leastF_in (fun v => s.1.getD v.toNat 0) left hl
      generalize leastF (fun v => s.1.getD v.toNat 0) left = v at hin
      simp only
      by_cases hv : s.1.getD v.toNat 0 = 1048576
      · rw [if_pos hv]
        refine ⟨rk, h.found hy hs (fun y hyl => ?_)⟩
        have h1 := hin.2 y hyl
        have h2 := h.sub y hyl
        have h3 := h.rng y h2.1 h2.2
        have h4 : gc s.1 y = s.1.getD y.toNat 0 := rfl
        omega
      · rw [if_neg hv]
        refine runL_found hy hs hst hsv k _ _ _ (h.step hy hs hst hsv hin.1 hin.2 hv) ?_
        have h1 := List.length_filter_le (fun o => !(o == v)) left
        have h2 : (left.filter fun o => !(o == v)).length ≠ left.length := fun e => by
          have := (List.length_filter_eq_length_iff.1 e) v hin.1
          simp at this
        omega
theorem gc_come0 (sv st v : Int) (hsv : 0 ≤ sv) (hv : 0 ≤ v) (hv2 : v < 20) : gc (come0 sv st) v = if v = sv then st else 1048576 := by
  unfold come0
  rw [gc_set _ _ _ _ hsv hv (by simp; omega)]
  split
  · rfl
  · unfold gc
    rw [List.getD_eq_getElem?_getD, List.getElem?_replicate, if_pos (by omega)]
    rfl
/-- The search finds. -/
theorem run_found {step : Int → S58 → Int × Bool} (may : S58 → Bool) {n : Int} {l : List S58} (hy : YardOK n l) (hs : StepOK step l) {sv st : Int} (hst : 0 ≤ st ∧ st ≤ 100000) (hsv : 0 ≤ sv ∧ sv < n) :
    ∃ rk, Found step may n l sv st (runC step may n l sv st) rk := by
  have hn := hy.n2
  have hall : ∀ v, 0 ≤ v → v < n → v ∈ (List.range n.toNat).map fun (i : Nat) => (i : Int) := fun v h0 h1 => List.mem_map.2 ⟨v.toNat, List.mem_range.2 (by omega), by omega⟩
  refine runL_found hy hs hst.1 hsv n.toNat _ _ (fun _ => 0) ⟨by simp [come0], fun v hv => ?_, by simp, fun v h0 h1 => ?_, ?_, fun v h0 h1 => ?_, fun u v h0 h1 hu => absurd (hall u h0 h1) hu, fun u h0 h1 hu => absurd (hall u h0 h1) hu, fun m hm hf => ?_, fun v h0 h1 hv hne => ?_, fun v h0 h1 hu => absurd (hall v h0 h1) hu⟩ (by simp)
  · obtain ⟨i, hi, rfl⟩ := List.mem_map.1 hv
    have := List.mem_range.1 hi
    omega
  · rw [gc_come0 sv st v hsv.1 h0 (by omega)]
    split
    · exact .inl hst
    · exact .inr rfl
  · rw [gc_come0 sv st sv hsv.1 hsv.1 (by omega), if_pos rfl]
  · rw [gc_come0 sv st v hsv.1 h0 (by omega)]
    split <;> omega
  · have hmm := hy.mv m hm
    exact absurd (hall m.f0 (by omega) (by omega)) hf
  · rw [gc_come0 sv st v hsv.1 h0 (by omega), if_neg hne] at hv
    exact absurd rfl hv
/-- No times that are right are later. -/
theorem Found.greatest {step : Int → S58 → Int × Bool} {may : S58 → Bool} {n : Int} {l : List S58} (hy : YardOK n l) (hs : StepOK step l) {sv st : Int} {s : List Int × (Int → Option Int)} {rk : Int → Nat} (h : Found step may n l sv st s rk)
    (d : Int → Int) (hd0 : d sv ≤ st) (hdn : ∀ v, 0 ≤ v → v < n → d v ≤ 1048576) (hd : ∀ m ∈ l, may m = true → (step (d m.f0) m).2 = true → d m.f1 ≤ (step (d m.f0) m).1) : ∀ (k : Nat) (v : Int), rk v < k → 0 ≤ v → v < n → d v ≤ gc s.1 v
  | 0, v, hk, _, _ => absurd hk (Nat.not_lt_zero _)
  | k + 1, v, hk, h0, h1 => by
    by_cases hv : gc s.1 v = 1048576
    · rw [hv]; exact hdn v h0 h1
    · by_cases hvs : v = sv
      · subst hvs; rw [h.own]; exact hd0
      · obtain ⟨i, hi, _, hf, hmay, _, hok, hg, hr⟩ := h.sup v h0 h1 hv hvs
        have hm := hy.mv l[i] (List.getElem_mem hi)
        have ih := Found.greatest hy hs h d hd0 hdn hd k l[i].f0 (by omega) (by omega) (by omega)
        obtain ⟨hok', hle⟩ := hs.mono l[i] (List.getElem_mem hi) _ _ ih hok
        have := hd l[i] (List.getElem_mem hi) hmay hok'
        rw [hf] at this
        omega
theorem Found.top {step : Int → S58 → Int × Bool} {may : S58 → Bool} {n : Int} {l : List S58} (hy : YardOK n l) (hs : StepOK step l) {sv st : Int} {s : List Int × (Int → Option Int)} {rk : Int → Nat} (h : Found step may n l sv st s rk)
    (d : Int → Int) (hd0 : d sv ≤ st) (hdn : ∀ v, 0 ≤ v → v < n → d v ≤ 1048576) (hd : ∀ m ∈ l, may m = true → (step (d m.f0) m).2 = true → d m.f1 ≤ (step (d m.f0) m).1) (v : Int) (h0 : 0 ≤ v) (h1 : v < n) : d v ≤ gc s.1 v :=
  h.greatest hy hs d hd0 hdn hd (rk v + 1) v (by omega) h0 h1
end Go.Proofs.Ytfhmepdbbhcncaa.P
