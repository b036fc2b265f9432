import Derived.Test.YtfhmepdbbhcncaaT5
import Derived.Test.YtfhmepdbbhcncaaT9
import Derived.Test.YtfhmepdbbhcncaaPf35
namespace Go.Proofs.Ytfhmepdbbhcncaa.P
open Go.RowKit Go.Proofs.YtfhmepdbbhcncaaW.PrintWords Go.Proofs.YtfhmepdbbhcncaaW.PrintLast Go.Proofs.YtfhmepdbbhcncaaW.PrintMore
set_option linter.unusedVariables false
set_option linter.unusedSimpArgs false

/-! Causes: the document's answer and the program's. -/
def carrB (n : Int) (l : List S58) (v t : Int) (i : Int) : Bool := decide (gc (runC soonF (fun _ => true) n l v t).1 (rd_T58 l i).f0 ≤ (rd_T58 l i).f2.f1)
theorem rd_mem {l : List S58} {i : Int} (h0 : 0 ≤ i) (h1 : i < (l.length : Int)) : rd_T58 l i ∈ l := by
  have := rdT l i.toNat (by omega)
  rw [show ((i.toNat : Nat) : Int) = i by omega] at this
  rw [this]
  exact List.getElem_mem _
theorem refCarries_l0 (n : Int) (l : List S58) (v t : Int) (c : List Int) (hc : c = (runC soonF (fun _ => true) n l v t).1.take n.toNat) (hcl : (c.length : Int) = n) (sp : List Int) (hsp : ∀ i ∈ sp, 0 ≤ i ∧ i < (l.length : Int)) (hl : sp.length ≤ 1000) (hm : ∀ m ∈ l, 0 ≤ m.f0 ∧ m.f0 < n) : ∀ (k i : Nat), sp.length < k + i → i ≤ sp.length →
    forecourtref05_Carries.l0 k sp c (i : Int) n l = some ((sp.drop i).all (carrB n l v t))
  | 0, i, h, hi => by omega
  | k + 1, i, h, hi => by
    rw [forecourtref05_Carries.l0]
    by_cases hlt : i < sp.length
    · have e : sp.drop i = sp[i] :: sp.drop (i + 1) := List.drop_eq_getElem_cons hlt
      obtain ⟨g0, g1⟩ := hsp sp[i] (List.getElem_mem hlt)
      obtain ⟨m0, m1⟩ := hm _ (rd_mem g0 g1)
      rw [if_pos (by omega), if_pos (by omega), rdI sp i hlt, if_pos g0, if_pos g1, if_pos m0, if_pos (by omega), wrap_next i (by omega), refCarries_l0 n l v t c hc hcl sp hsp hl hm k (i + 1) (by omega) (by omega), e, List.all_cons, rd_gc, hc, gc_take _ n _ m0 m1]
      by_cases h1 : gc (runC soonF (fun _ => true) n l v t).1 (rd_T58 l sp[i]).f0 > (rd_T58 l sp[i]).f2.f1
      · rw [if_pos h1, show carrB n l v t sp[i] = false from decide_eq_false (by omega), Bool.false_and]
      · rw [if_neg h1, show carrB n l v t sp[i] = true from decide_eq_true (by omega), Bool.true_and]
    · rw [if_neg (by omega), List.drop_eq_nil_of_le (by omega)]
      rfl
theorem refCarries (n : Int) (l : List S58) (v t : Int) (hy : YardOK n l) (hv : 0 ≤ v ∧ v < n) (ht : 0 ≤ t ∧ t ≤ 100000) (sp : List Int) (hsp : ∀ i ∈ sp, 0 ≤ i ∧ i < (l.length : Int)) (hl : sp.length ≤ 1000) (k : Nat) (hk : 1700 ≤ k) :
    forecourtref05_Carries.f k n l v t sp = some (sp.all (carrB n l v t)) := by
  unfold forecourtref05_Carries.f
  rw [refArr false (-1) n l v t hy ht hv (fun _ => true) (may_all hy) k hk]
  simp only [Option.bind_some, Bool.false_eq_true, if_false]
  have h1 := hy.n1
  have h2 := hy.n2
  have := refCarries_l0 n l v t _ rfl (by rw [List.length_take, comeLen soonF _ hy (StepOK.soon hy) ht hv]; omega) sp hsp hl (fun m hm => by have := hy.mv m hm; omega) k 0 (by omega) (by omega)
  rw [List.drop_zero] at this
  exact this
theorem refRising_l0 (sp : List Int) (len : Nat) (hl : sp.length ≤ 1000) : ∀ (k i : Nat) (last : Int), sp.length < k + i → i ≤ sp.length → -1 ≤ last → (i = 0 → last = -1) → (∀ h : 0 < i, ∃ h2 : i - 1 < sp.length, last = sp[i - 1]) →
    forecourtref05_Rising.l0 k sp (len : Int) (i : Int) = some (risesB len (sp.drop i) last)
  | 0, i, last, h, hi, _, _, _ => by omega
  | k + 1, i, last, h, hi, hlast, h0, hp => by
    rw [forecourtref05_Rising.l0]
    by_cases hlt : i < sp.length
    · have e : sp.drop i = sp[i] :: sp.drop (i + 1) := List.drop_eq_getElem_cons hlt
      rw [if_pos (by omega), if_pos (by omega), rdI sp i hlt, e, risesB]
      by_cases a1 : sp[i] < 0
      · rw [if_pos a1, if_pos (Or.inl (by omega))]
      · rw [if_neg a1]
        by_cases a2 : sp[i] ≥ (len : Int)
        · rw [if_pos a2, if_pos (Or.inr a2)]
        · rw [if_neg a2, wrap_next i (by omega)]
          have ih : ¬ sp[i] ≤ last → forecourtref05_Rising.l0 k sp (len : Int) ((i + 1 : Nat) : Int) = some (if sp[i] ≤ last ∨ (len : Int) ≤ sp[i] then false else risesB len (sp.drop (i + 1)) sp[i]) := fun a3 => by
            rw [if_neg (by omega)]
            exact refRising_l0 sp len hl k (i + 1) sp[i] (by omega) (by omega) (by omega) (fun h => absurd h (by omega)) (fun _ => ⟨by omega, rfl⟩)
          by_cases hi0 : i = 0
          · rw [if_neg (by omega)]
            exact ih (by have := h0 hi0; omega)
          · obtain ⟨hb, hl2⟩ := hp (by omega)
            have ew : wrap64 ((i : Int) - 1) = ((i - 1 : Nat) : Int) := by
              rw [wrap_ok] <;> omega
            rw [if_pos (by omega), ew, if_pos (by omega), if_pos (by omega), rdI sp (i - 1) hb, ← hl2]
            by_cases a3 : sp[i] ≤ last
            · rw [if_pos a3, if_pos (Or.inl a3)]
            · rw [if_neg a3]
              exact ih a3
    · rw [if_neg (by omega), List.drop_eq_nil_of_le (by omega)]
      rfl
theorem refRising (sp : List Int) (len : Nat) (hl : sp.length ≤ 1000) (k : Nat) (hk : 1002 ≤ k) : forecourtref05_Rising.f k sp (len : Int) = some (risesB len sp (-1)) := by
  unfold forecourtref05_Rising.f
  have := refRising_l0 sp len hl k 0 (-1) (by omega) (by omega) (by omega) (fun _ => rfl) (fun h => absurd h (by omega))
  rw [List.drop_zero] at this
  exact this
theorem gc_minL (a b : List Int) (v : Int) (h0 : 0 ≤ v) (h1 : v < 20) : gc (minL a b) v = min (gc a v) (gc b v) := by
  have : v.toNat < 20 := by omega
  unfold gc minL
  simp [List.getD, this]
theorem carr_rd {n : Int} {l : List S58} {v t i : Int} : carrB n l v t i = true ↔ carr n l v t (rd_T58 l i) := by
  unfold carrB carr
  exact decide_eq_true_iff
theorem upF_ex {n : Int} {l : List S58} (hy : YardOK n l) : ∀ (sp : List Int) (up0 : List Int) (P : Int → Int → Prop), (∀ i ∈ sp, 0 ≤ i ∧ i < (l.length : Int)) → up0.length = 20 → (∀ v, 0 ≤ v → v < 20 → gc up0 v = 1048576 ∨ gc up0 v = -1 ∨ ∃ m ∈ l, gc up0 v = m.f2.f1) →
    (∀ v t, 0 ≤ v → v < n → 0 ≤ t → t ≤ 100000 → (P v t ↔ t ≤ gc up0 v)) → ∃ up, upF l sp up0 = some up ∧ up.length = 20 ∧ (∀ v, 0 ≤ v → v < 20 → (sp = [] ∧ gc up v = gc up0 v) ∨ gc up v = -1 ∨ ∃ m ∈ l, gc up v = m.f2.f1) ∧
    ∀ v t, 0 ≤ v → v < n → 0 ≤ t → t ≤ 100000 → ((P v t ∧ ∀ i ∈ sp, carr n l v t (rd_T58 l i)) ↔ t ≤ gc up v)
  | [], up0, P, _, hl, hval, hP => ⟨up0, rfl, hl, fun v _ _ => .inl ⟨rfl, rfl⟩, fun v t h0 h1 ht ht2 => ⟨fun h => (hP v t h0 h1 ht ht2).1 h.1, fun h => ⟨(hP v t h0 h1 ht ht2).2 h, fun i hi => by cases hi⟩⟩⟩
  | i :: is, up0, P, hsp, hl, hval, hP => by
    obtain ⟨g0, g1⟩ := hsp i (List.mem_cons_self ..)
    have hn := hy.n2
    obtain ⟨L, hL, hLl, hLv, hLc⟩ := lat_carr hy (rd_mem g0 g1)
    have hval1 : ∀ v, 0 ≤ v → v < 20 → gc (minL up0 L) v = -1 ∨ ∃ m ∈ l, gc (minL up0 L) v = m.f2.f1 := fun v h0 h1 => by
      rw [gc_minL _ _ v h0 h1]
      have hL1 : gc L v ≤ 100000 := by
        rcases hLv v h0 h1 with e | ⟨m, hm, e⟩
        · omega
        · have := hy.mv m hm
          omega
      rcases Int.le_total (gc up0 v) (gc L v) with e | e
      · rw [Int.min_eq_left e]
        rcases hval v h0 h1 with e2 | e2
        · omega
        · exact e2
      · rw [Int.min_eq_right e]
        exact hLv v h0 h1
    obtain ⟨up, hu, hul, huv, huc⟩ := upF_ex hy is (minL up0 L) (fun v t => P v t ∧ carr n l v t (rd_T58 l i)) (fun j hj => hsp j (List.mem_cons_of_mem _ hj)) (by simp [minL]) (fun v h0 h1 => .inr (hval1 v h0 h1)) (fun v t h0 h1 ht ht2 => by
      rw [gc_minL _ _ v h0 (by omega), hP v t h0 h1 ht ht2, hLc v t h0 h1 ht ht2]
      omega)
    refine ⟨up, by rw [upF, hL]; exact hu, hul, fun v h0 h1 => ?_, fun v t h0 h1 ht ht2 => ?_⟩
    · rcases huv v h0 h1 with ⟨_, e⟩ | e
      · rw [e]; exact .inr (hval1 v h0 h1)
      · exact .inr e
    · rw [← huc v t h0 h1 ht ht2]
      constructor
      · rintro ⟨hp, hall⟩
        exact ⟨⟨hp, hall i (List.mem_cons_self ..)⟩, fun j hj => hall j (List.mem_cons_of_mem _ hj)⟩
      · rintro ⟨⟨hp, hc⟩, hall⟩
        refine ⟨hp, fun j hj => ?_⟩
        rcases List.mem_cons.1 hj with rfl | hj
        · exact hc
        · exact hall j hj
def bestT (l : List S58) (u : Int) : Nat → Int
  | 0 => 0
  | i + 1 => if bestT l u i < (l.getD i z58).f2.f1 ∧ (l.getD i z58).f2.f1 ≤ u then (l.getD i z58).f2.f1 else bestT l u i
theorem bestT_le (l : List S58) (u : Int) (hu : 0 ≤ u) : ∀ i, bestT l u i ≤ u
  | 0 => hu
  | i + 1 => by
    have := bestT_le l u hu i
    rw [bestT]
    split <;> omega
theorem bestT_ge (l : List S58) (u : Int) : ∀ i j, j < i → (l.getD j z58).f2.f1 ≤ u → (l.getD j z58).f2.f1 ≤ bestT l u i
  | 0, j, h, _ => absurd h (Nat.not_lt_zero _)
  | i + 1, j, h, hj => by
    rw [bestT]
    by_cases e : j = i
    · subst e
      split
      · exact Int.le_refl _
      · omega
    · have := bestT_ge l u i j (by omega) hj
      split <;> omega
theorem bestT_nonneg (l : List S58) (u : Int) : ∀ i, 0 ≤ bestT l u i
  | 0 => Int.le_refl _
  | i + 1 => by
    have := bestT_nonneg l u i
    rw [bestT]
    split <;> omega
section
variable {n : Int} {l : List S58} {sp : List Int} {up : List Int}
theorem refCauses_l1 (hy : YardOK n l) (hsp : ∀ i ∈ sp, 0 ≤ i ∧ i < (l.length : Int)) (hl : sp.length ≤ 1000) (v : Nat) (hv : (v : Int) < n) (u : Int) (hu : ∀ t, 0 ≤ t → t ≤ 100000 → (sp.all (carrB n l (v : Int) t) = true ↔ t ≤ u)) (acc : List S26) (hacc : acc.length ≤ 1000) : ∀ (d i k : Nat), l.length = i + d → 1800 + d < k →
    forecourtref05_Causes.l1 k sp acc (v : Int) (bestT l u i) (i : Int) n l = forecourtref05_Causes.l0 (k - d - 1) sp (acc ++ [⟨(v : Int), bestT l u l.length⟩]) ((v + 1 : Nat) : Int) n l
  | 0, i, k, hi, hk => by
    obtain ⟨j, rfl⟩ : ∃ j, k = j + 1 := ⟨k - 1, by omega⟩
    have : i = l.length := by omega
    subst this
    have h2 := hy.n2
    rw [forecourtref05_Causes.l1, if_neg (by omega), if_pos (by omega), wrap_next v (by omega)]
    rfl
  | d + 1, i, k, hi, hk => by
    obtain ⟨j, rfl⟩ : ∃ j, k = j + 1 := ⟨k - 1, by omega⟩
    have hlt : i < l.length := by omega
    have h2 := hy.n2
    have h3 := hy.len
    have hm := hy.mv l[i] (List.getElem_mem hlt)
    have eg : l.getD i z58 = l[i] := by simp [List.getD, hlt]
    have ih := refCauses_l1 hy hsp hl v hv u hu acc hacc d (i + 1) j (by omega) (by omega)
    rw [bestT, eg] at ih
    rw [forecourtref05_Causes.l1, if_pos (by omega), if_pos (by omega), rdT l i hlt, wrap_next i (by omega), show j + 1 - (d + 1) - 1 = j - d - 1 by omega]
    by_cases h1 : l[i].f2.f1 > bestT l u i
    · rw [if_pos h1, refCarries n l (v : Int) l[i].f2.f1 hy (by omega) (by omega) sp hsp hl j (by omega)]
      simp only [Option.bind_some]
      have := hu l[i].f2.f1 (by omega) (by omega)
      by_cases h4 : l[i].f2.f1 ≤ u
      · rw [if_pos (this.2 h4)]
        rw [if_pos ⟨h1, h4⟩] at ih
        exact ih
      · rw [if_neg (fun h => h4 (this.1 h))]
        rw [if_neg (fun h => h4 h.2)] at ih
        exact ih
    · rw [if_neg h1]
      rw [if_neg (fun h => h1 h.1)] at ih
      exact ih
theorem refCauses_l0 (hy : YardOK n l) (hsp : ∀ i ∈ sp, 0 ≤ i ∧ i < (l.length : Int)) (hl : sp.length ≤ 1000) (hval : ∀ v, 0 ≤ v → v < 20 → gc up v = -1 ∨ ∃ m ∈ l, gc up v = m.f2.f1)
    (hu : ∀ v t, 0 ≤ v → v < n → 0 ≤ t → t ≤ 100000 → (sp.all (carrB n l v t) = true ↔ t ≤ gc up v)) : ∀ (d v k : Nat), n = ((v + d : Nat) : Int) → 1900 + d * (l.length + 2) < k →
    forecourtref05_Causes.l0 k sp (startsT up v) (v : Int) n l = some (startsT up n.toNat, 0)
  | 0, v, k, hv, hk => by
    obtain ⟨j, rfl⟩ : ∃ j, k = j + 1 := ⟨k - 1, by omega⟩
    rw [forecourtref05_Causes.l0, if_neg (by omega), show n.toNat = v by omega]
  | d + 1, v, k, hv, hk => by
    rw [Nat.succ_mul] at hk
    obtain ⟨j, rfl⟩ : ∃ j, k = j + 1 := ⟨k - 1, by omega⟩
    have h2 := hy.n2
    have h3 := hy.len
    have hsl := startsT_len up v
    rw [forecourtref05_Causes.l0, if_pos (by omega), refCarries n l (v : Int) 0 hy (by omega) (by omega) sp hsp hl j (by omega)]
    simp only [Option.bind_some]
    have hz := hu (v : Int) 0 (by omega) (by omega) (by omega) (by omega)
    have eg : gc up (v : Int) = up.getD v 0 := rfl
    by_cases h1 : 0 ≤ gc up (v : Int)
    · rw [if_pos (hz.2 h1)]
      have hl1 := refCauses_l1 hy hsp hl v (by omega) (gc up (v : Int)) (fun t ht ht2 => hu (v : Int) t (by omega) (by omega) ht ht2) (startsT up v) (by omega) l.length 0 j (by omega) (by omega)
      rw [show bestT l (gc up (v : Int)) 0 = 0 from rfl] at hl1
      have eb : bestT l (gc up (v : Int)) l.length = gc up (v : Int) := by
        have b1 := bestT_le l (gc up (v : Int)) h1 l.length
        rcases hval (v : Int) (by omega) (by omega) with e | ⟨m, hm, e⟩
        · omega
        · obtain ⟨q, hq, rfl⟩ := List.getElem_of_mem hm
          have eq2 : l.getD q z58 = l[q] := by simp [List.getD, hq]
          have := bestT_ge l (gc up (v : Int)) l.length q hq (by rw [eq2]; omega)
          rw [eq2] at this
          omega
      rw [eb] at hl1
      have ih := refCauses_l0 hy hsp hl hval hu d (v + 1) (j - l.length - 1) (by omega) (by omega)
      rw [startsT, if_pos (show 0 ≤ up.getD v 0 from h1)] at ih
      exact hl1.trans ih
    · rw [if_neg (fun h => h1 (hz.1 h)), wrap_next v (by omega)]
      have ih := refCauses_l0 hy hsp hl hval hu d (v + 1) j (by omega) (by omega)
      rw [startsT, if_neg (show ¬ 0 ≤ up.getD v 0 from h1)] at ih
      exact ih
end
/-- What Causes returns, and that it does. -/
structure CauseR (n : Int) (l : List S58) (sp : List Int) (up : List Int) : Prop where
  len : up.length = 20
  val : ∀ v, 0 ≤ v → v < 20 → gc up v = -1 ∨ ∃ m ∈ l, gc up v = m.f2.f1
  iff : ∀ v t, 0 ≤ v → v < n → 0 ≤ t → t ≤ 100000 → (sp.all (carrB n l v t) = true ↔ t ≤ gc up v)
theorem cause_ex {n : Int} {l : List S58} (hy : YardOK n l) {sp : List Int} (hne : sp ≠ []) (hsp : ∀ i ∈ sp, 0 ≤ i ∧ i < (l.length : Int)) : ∃ up, upF l sp (List.replicate 20 1048576) = some up ∧ CauseR n l sp up := by
  have hg0 : ∀ v : Int, 0 ≤ v → v < 20 → gc (List.replicate 20 1048576) v = 1048576 := fun v h0 h1 => by
    unfold gc
    rw [List.getD_eq_getElem?_getD, List.getElem?_replicate, if_pos (by omega)]
    rfl
  have hn := hy.n2
  obtain ⟨up, hu, hul, huv, huc⟩ := upF_ex hy sp (List.replicate 20 1048576) (fun _ _ => True) hsp (by simp) (fun v h0 h1 => .inl (hg0 v h0 h1)) (fun v t h0 h1 ht ht2 => by
    rw [hg0 v h0 (by omega)]
    exact ⟨fun _ => by omega, fun _ => trivial⟩)
  refine ⟨up, hu, hul, fun v h0 h1 => ?_, fun v t h0 h1 ht ht2 => ?_⟩
  · rcases huv v h0 h1 with ⟨e, _⟩ | e
    · exact absurd e hne
    · exact e
  · rw [← huc v t h0 h1 ht ht2, List.all_eq_true]
    exact ⟨fun h => ⟨trivial, fun i hi => carr_rd.1 (h i hi)⟩, fun h i hi => carr_rd.2 (h.2 i hi)⟩
theorem causes_eq (n : Int) (l : List S58) (sp : List Int) (hl : l.length ≤ 1000) (k : Nat) (hk : 4000 ≤ k) : ∃ r, causesF n l sp = some r ∧ forecourtref05_Causes.f k n l sp = some r ∧ r.1.length ≤ 20 := by
  unfold causesF forecourtref05_Causes.f
  rw [refCY n l hl k (by omega)]
  simp only [Option.bind_some]
  by_cases h0 : checkYard n l = 0
  · have hy := yardOK h0
    obtain ⟨j, rfl⟩ : ∃ j, k = j + 1 := ⟨k - 1, by omega⟩
    rw [if_neg (show ¬ checkYard n l ≠ 0 by omega), if_pos h0]
    by_cases h1 : sp.length = 0 ∨ 40 < sp.length
    · refine ⟨([], 6), by rw [if_pos h1], ?_, by simp⟩
      by_cases h2 : (sp.length : Int) < 1
      · rw [if_pos h2, forecourtref05_Causes.j0, if_pos rfl]
      · rw [if_neg h2, forecourtref05_Causes.j0, if_pos (decide_eq_true (by omega))]
    · rw [if_neg h1, if_neg (show ¬ (sp.length : Int) < 1 by omega), forecourtref05_Causes.j0, if_neg (show ¬ decide ((sp.length : Int) > 40) = true by simp only [decide_eq_true_eq]; omega), refRising sp l.length (by omega) j (by omega)]
      simp only [Option.bind_some]
      by_cases h2 : risesB l.length sp (-1) = false
      · rw [if_pos h2, if_neg (by rw [h2]; simp)]
        exact ⟨([], 3), rfl, rfl, by simp⟩
      · have h2' : risesB l.length sp (-1) = true := by cases e : risesB l.length sp (-1) <;> simp_all
        have hsp := risesB_mem l.length sp (-1) h2' (by omega)
        obtain ⟨up, hu, hR⟩ := cause_ex hy (fun e => h1 (.inl (by rw [e]; rfl))) hsp
        rw [if_neg h2, if_pos h2', hu]
        have hn1 := hy.n1
        have hn2 := hy.n2
        have hln := hy.len
        have hb : n.toNat * (l.length + 2) ≤ 20 * 42 := Nat.mul_le_mul (by omega) (by omega)
        refine ⟨_, rfl, refCauses_l0 hy hsp (by omega) hR.val hR.iff n.toNat 0 j (by omega) (by omega), ?_⟩
        have := startsT_len up n.toNat
        simp only
        omega
  · rw [if_pos h0, if_neg h0]
    exact ⟨([], checkYard n l), rfl, rfl, by simp⟩
theorem starts_l0 (a : List S26) (hl : a.length ≤ 1000) : ∀ (k i : Nat), a.length < k + i → i ≤ a.length → forecourtlaw05_starts.l0 k a a (i : Int) = some true
  | 0, i, h, hi => by omega
  | k + 1, i, h, hi => by
    rw [forecourtlaw05_starts.l0]
    by_cases hlt : i < a.length
    · rw [if_pos (by omega), if_pos (by omega), if_pos (by omega), if_neg (by simp), wrap_next i (by omega)]
      exact starts_l0 a hl k (i + 1) (by omega) (by omega)
    · rw [if_neg (by omega)]
theorem starts_self (a : List S26) (hl : a.length ≤ 1000) (k : Nat) (hk : 1002 ≤ k) : forecourtlaw05_starts.f k a a = some true := by
  unfold forecourtlaw05_starts.f
  rw [if_pos rfl]
  exact starts_l0 a hl k 0 (by omega) (by omega)
end Go.Proofs.Ytfhmepdbbhcncaa.P
