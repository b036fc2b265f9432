import Derived.Test.YtfhmepdbbhcncaaT3
namespace Go.Proofs.Ytfhmepdbbhcncaa.P
open Go.RowKit Go.Proofs.YtfhmepdbbhcncaaW.PrintWords Go.Proofs.YtfhmepdbbhcncaaW.PrintLast Go.Proofs.YtfhmepdbbhcncaaW.PrintMore
set_option linter.unusedVariables false
set_option linter.unusedSimpArgs false

/-! The document's rounds, and that they find what the search finds. -/
def relaxM (step : Int → S58 → Int × Bool) (but : Int) (c : List Int) (m : S58) : List Int :=
  if m.f1 = but then c else if (step (gc c m.f0) m).2 = true then c.set m.f1.toNat (min (gc c m.f1) (step (gc c m.f0) m).1) else c
def bfN (step : Int → S58 → Int × Bool) (but : Int) (l : List S58) : Nat → List Int → List Int
  | 0, c => c
  | k + 1, c => bfN step but l k (l.foldl (relaxM step but) c)
theorem bfN_succ (step : Int → S58 → Int × Bool) (but : Int) (l : List S58) : ∀ (k : Nat) (c : List Int), bfN step but l (k + 1) c = l.foldl (relaxM step but) (bfN step but l k c)
  | 0, c => rfl
  | k + 1, c => by rw [bfN, bfN_succ step but l k, bfN]
section
variable {step : Int → S58 → Int × Bool} {but : Int}
theorem relax_len (c : List Int) (m : S58) : (relaxM step but c m).length = c.length := by
  unfold relaxM
  split
  · rfl
  · split <;> simp
theorem relax_get (c : List Int) (m : S58) (v : Int) (h0 : 0 ≤ v) (h1 : v.toNat < c.length) (hm : 0 ≤ m.f1) :
    gc (relaxM step but c m) v = if v = m.f1 ∧ m.f1 ≠ but ∧ (step (gc c m.f0) m).2 = true then min (gc c v) (step (gc c m.f0) m).1 else gc c v := by
  unfold relaxM
  by_cases hb : m.f1 = but
  · rw [if_pos hb, if_neg (fun h => h.2.1 hb)]
  · rw [if_neg hb]
    by_cases ho : (step (gc c m.f0) m).2 = true
    · rw [if_pos ho, gc_set c m.f1 v _ hm h0 h1]
      by_cases e : v = m.f1
      · rw [if_pos e, if_pos ⟨e, hb, ho⟩, e]
      · rw [if_neg e, if_neg (fun h => e h.1)]
    · rw [if_neg ho, if_neg (fun h => ho h.2.2)]
theorem relax_le (c : List Int) (m : S58) (v : Int) (h0 : 0 ≤ v) (h1 : v.toNat < c.length) (hm : 0 ≤ m.f1) : gc (relaxM step but c m) v ≤ gc c v := by
  rw [relax_get c m v h0 h1 hm]
  split <;> omega
theorem fold_len : ∀ (ms : List S58) (c : List Int), (ms.foldl (relaxM step but) c).length = c.length
  | [], c => rfl
  | m :: ms, c => by rw [List.foldl_cons, fold_len ms, relax_len]
theorem fold_le : ∀ (ms : List S58) (c : List Int) (v : Int), (∀ m ∈ ms, 0 ≤ m.f1) → 0 ≤ v → v.toNat < c.length → gc (ms.foldl (relaxM step but) c) v ≤ gc c v
  | [], c, v, _, _, _ => Int.le_refl _
  | m :: ms, c, v, hm, h0, h1 => by
    rw [List.foldl_cons]
    have a := fold_le ms (relaxM step but c m) v (fun x hx => hm x (List.mem_cons_of_mem _ hx)) h0 (by rw [relax_len]; exact h1)
    have b := relax_le (step := step) (but := but) c m v h0 h1 (hm m (List.mem_cons_self ..))
    omega
theorem fold_lower {l : List S58} (hs : StepOK step l) {N : Nat} (d : Int → Int) (hd : ∀ m ∈ l, m.f1 ≠ but → (step (d m.f0) m).2 = true → d m.f1 ≤ (step (d m.f0) m).1) :
    ∀ (ms : List S58) (c : List Int), (∀ m ∈ ms, m ∈ l ∧ 0 ≤ m.f0 ∧ m.f0.toNat < N ∧ 0 ≤ m.f1) → c.length = N → (∀ v, 0 ≤ v → v.toNat < N → d v ≤ gc c v) → ∀ v, 0 ≤ v → v.toNat < N → d v ≤ gc (ms.foldl (relaxM step but) c) v
  | [], c, _, _, h, v, h0, h1 => h v h0 h1
  | m :: ms, c, hm, hl, h, v, h0, h1 => by
    rw [List.foldl_cons]
    have hh := hm m (List.mem_cons_self ..)
    refine fold_lower hs d hd ms _ (fun x hx => hm x (List.mem_cons_of_mem _ hx)) (by rw [relax_len, hl]) (fun w w0 w1 => ?_) v h0 h1
    rw [relax_get c m w w0 (by omega) hh.2.2.2]
    have hw := h w w0 w1
    split
    · rename_i hc
      obtain ⟨e, hb, ho⟩ := hc
      obtain ⟨ho', hle⟩ := hs.mono m hh.1 _ _ (h m.f0 hh.2.1 hh.2.2.1) ho
      have := hd m hh.1 hb ho'
      rw [← e] at this
      omega
    · exact hw
theorem fold_hit {l : List S58} (hs : StepOK step l) {m : S58} (hml : m ∈ l) (hb : m.f1 ≠ but) (t : Int) (ht : (step t m).2 = true) (hf0 : 0 ≤ m.f0) (hf1 : 0 ≤ m.f1) :
    ∀ (ms : List S58) (c : List Int), m ∈ ms → (∀ x ∈ ms, 0 ≤ x.f1) → m.f0.toNat < c.length → m.f1.toNat < c.length → gc c m.f0 ≤ t → gc (ms.foldl (relaxM step but) c) m.f1 ≤ (step t m).1
  | [], c, h, _, _, _, _ => by cases h
  | x :: ms, c, h, hx, h0, h1, hle => by
    rw [List.foldl_cons]
    rcases List.mem_cons.1 h with rfl | h
    · have a := fold_le (step := step) (but := but) ms (relaxM step but c m) m.f1 (fun y hy => hx y (List.mem_cons_of_mem _ hy)) hf1 (by rw [relax_len]; exact h1)
      obtain ⟨ho, hr⟩ := hs.mono m hml _ _ hle ht
      rw [relax_get c m m.f1 hf1 h1 hf1, if_pos ⟨rfl, hb, ho⟩] at a
      omega
    · refine fold_hit hs hml hb t ht hf0 hf1 ms _ h (fun y hy => hx y (List.mem_cons_of_mem _ hy)) (by rw [relax_len]; exact h0) (by rw [relax_len]; exact h1) ?_
      have := relax_le (step := step) (but := but) c x m.f0 hf0 h0 (hx x (List.mem_cons_self ..))
      omega
end
def bf0 (n sv st : Int) : List Int := (List.replicate n.toNat 1048576).set sv.toNat st
theorem gc_bf0 (n sv st v : Int) (hsv : 0 ≤ sv) (hv : 0 ≤ v) (hv2 : v < n) : gc (bf0 n sv st) v = if v = sv then st else 1048576 := by
  unfold bf0
  rw [gc_set _ _ _ _ hsv hv (by simp; omega)]
  split
  · rfl
  · unfold gc
    rw [List.getD_eq_getElem?_getD, List.getElem?_replicate, if_pos (by omega)]
    rfl
theorem bf_len (step : Int → S58 → Int × Bool) (but : Int) (l : List S58) : ∀ (k : Nat) (c : List Int), (bfN step but l k c).length = c.length
  | 0, c => rfl
  | k + 1, c => by rw [bfN, bf_len step but l k, fold_len]
theorem bf_found {step : Int → S58 → Int × Bool} {but : Int} {n : Int} {l : List S58} (hy : YardOK n l) (hs : StepOK step l) {sv st : Int} (hsv : 0 ≤ sv ∧ sv < n) {s : List Int × (Int → Option Int)} {rk : Int → Nat} {may : S58 → Bool} (hmay : ∀ m ∈ l, may m = decide (m.f1 ≠ but)) (h : Found step may n l sv st s rk)
    (v : Int) (h0 : 0 ≤ v) (h1 : v < n) : gc (bfN step but l n.toNat (bf0 n sv st)) v = gc s.1 v := by
  have hlen0 : (bf0 n sv st).length = n.toNat := by simp [bf0]
  have hml : ∀ m ∈ l, m ∈ l ∧ 0 ≤ m.f0 ∧ m.f0.toNat < n.toNat ∧ 0 ≤ m.f1 := fun m hm => by
    have := hy.mv m hm
    exact ⟨hm, by omega, by omega, by omega⟩
  have lower : ∀ k v, 0 ≤ v → v.toNat < n.toNat → gc s.1 v ≤ gc (bfN step but l k (bf0 n sv st)) v := by
    intro k
    induction k with
    | zero =>
      intro v h0 h1
      show _ ≤ gc (bf0 n sv st) v
      rw [gc_bf0 n sv st v hsv.1 h0 (by omega)]
      split
      · rename_i e; rw [e, h.own]; exact Int.le_refl _
      · rcases h.rng v h0 (by omega) with e | e <;> omega
    | succ k ih =>
      rw [bfN_succ]
      exact fold_lower hs (fun v => gc s.1 v) (fun m hm hb ho => h.clo m hm (by rw [hmay m hm]; exact decide_eq_true hb) ho) l _ hml (by rw [bf_len, hlen0]) ih
  have upper : ∀ k v, 0 ≤ v → v < n → gc s.1 v ≠ 1048576 → (rk v < k ∨ v = sv) → gc (bfN step but l k (bf0 n sv st)) v ≤ gc s.1 v := by
    intro k
    induction k with
    | zero =>
      intro v h0 h1 hv hr
      rcases hr with hr | hr
      · exact absurd hr (Nat.not_lt_zero _)
      · show gc (bf0 n sv st) v ≤ _
        rw [gc_bf0 n sv st v hsv.1 h0 h1, if_pos hr, hr, h.own]
        exact Int.le_refl _
    | succ k ih =>
      intro v h0 h1 hv hr
      rw [bfN_succ]
      have hl : (bfN step but l k (bf0 n sv st)).length = n.toNat := by rw [bf_len, hlen0]
      by_cases hvs : v = sv
      · have a := ih v h0 h1 hv (.inr hvs)
        have b := fold_le (step := step) (but := but) l (bfN step but l k (bf0 n sv st)) v (fun m hm => (hml m hm).2.2.2) h0 (by omega)
        omega
      · obtain ⟨i, hi, _, hf, hmy, hne, hok, hg, hrk⟩ := h.sup v h0 h1 hv hvs
        have hm := hy.mv l[i] (List.getElem_mem hi)
        have hb : l[i].f1 ≠ but := by
          rw [hmay l[i] (List.getElem_mem hi)] at hmy
          exact of_decide_eq_true hmy
        have a := ih l[i].f0 (by omega) (by omega) hne (by
          rcases hr with hr | hr
          · exact .inl (by omega)
          · exact absurd hr hvs)
        have := fold_hit (but := but) hs (List.getElem_mem hi) hb (gc s.1 l[i].f0) hok (by omega) (by omega) l _ (List.getElem_mem hi) (fun m hm => (hml m hm).2.2.2) (by omega) (by omega) a
        rw [hf] at this
        omega
  have a := lower n.toNat v h0 (by omega)
  by_cases hv : gc s.1 v = 1048576
  · have hall : ∀ k, gc (bfN step but l k (bf0 n sv st)) v ≤ 1048576 := by
      intro k
      induction k with
      | zero =>
        show gc (bf0 n sv st) v ≤ _
        rw [gc_bf0 n sv st v hsv.1 h0 h1]
        split
        · rename_i e
          subst e
          have := h.own
          omega
        · exact Int.le_refl _
      | succ k ih =>
        rw [bfN_succ]
        have hl : (bfN step but l k (bf0 n sv st)).length = n.toNat := by rw [bf_len, hlen0]
        have b := fold_le (step := step) (but := but) l (bfN step but l k (bf0 n sv st)) v (fun m hm => (hml m hm).2.2.2) h0 (by omega)
        omega
    have := hall n.toNat
    omega
  · have := upper n.toNat v h0 h1 hv (.inl (h.rkb v h0 h1 hv))
    omega
theorem gc_ext {a b : List Int} (hl : a.length = b.length) (h : ∀ v : Int, 0 ≤ v → v.toNat < a.length → gc a v = gc b v) : a = b := by
  apply List.ext_getElem hl
  intro i h1 h2
  have := h (i : Int) (by omega) (by simpa using h1)
  simpa [gc, List.getD, h1, h2] using this
/-- The rounds find just what the search finds. -/
theorem bf_eq {step : Int → S58 → Int × Bool} {but : Int} {n : Int} {l : List S58} (hy : YardOK n l) (hs : StepOK step l) {sv st : Int} (hst : 0 ≤ st ∧ st ≤ 100000) (hsv : 0 ≤ sv ∧ sv < n) {may : S58 → Bool} (hmay : ∀ m ∈ l, may m = decide (m.f1 ≠ but)) :
    bfN step but l n.toNat (bf0 n sv st) = (runC step may n l sv st).1.take n.toNat := by
  obtain ⟨rk, h⟩ := run_found may hy hs hst hsv
  have hlen0 : (bf0 n sv st).length = n.toNat := by simp [bf0]
  have hn := hy.n2
  refine gc_ext (by rw [bf_len, hlen0, List.length_take, h.len]; omega) (fun v h0 h1 => ?_)
  rw [bf_len, hlen0] at h1
  rw [bf_found hy hs hsv hmay h v h0 (by omega)]
  unfold gc
  rw [List.getD_eq_getElem?_getD, List.getD_eq_getElem?_getD, List.getElem?_take, if_pos h1]
end Go.Proofs.Ytfhmepdbbhcncaa.P
