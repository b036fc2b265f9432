import Derived.Test.YtfhmepdbbhcncaaX
import Derived.Test.YtfhmepdbbhcncaaT4
namespace Go.Proofs.Ytfhmepdbbhcncaa.P
open Go.RowKit Go.Proofs.YtfhmepdbbhcncaaW.PrintWords Go.Proofs.YtfhmepdbbhcncaaW.PrintLast Go.Proofs.YtfhmepdbbhcncaaW.PrintMore
set_option linter.unusedVariables false
set_option linter.unusedSimpArgs false

/-! The way back, the trail, and the vessels that all trails pass. -/
theorem rdT' (l : List S58) (i : Nat) (h : i < l.length) : rd_T58 l (i : Int) = l[i] := by simp [rd_T58, List.getD, h]
/-- Moves by which one comes back to the start. -/
def WayB (step : Int → S58 → Int × Bool) (may : S58 → Bool) (l : List S58) (sv : Int) (s : List Int × (Int → Option Int)) (rk : Int → Nat) : Int → List Int → Prop
  | a, [] => a = sv
  | a, i :: w => ∃ j : Nat, ∃ h : j < l.length, i = (j : Int) ∧ a ≠ sv ∧ l[j].f1 = a ∧ may l[j] = true ∧ gc s.1 l[j].f0 ≠ 1048576 ∧ (step (gc s.1 l[j].f0) l[j]).2 = true ∧ gc s.1 a = (step (gc s.1 l[j].f0) l[j]).1 ∧ rk l[j].f0 < rk a ∧ WayB step may l sv s rk l[j].f0 w
theorem way_ex {step : Int → S58 → Int × Bool} {may : S58 → Bool} {n : Int} {l : List S58} (hy : YardOK n l) {sv st : Int} {s : List Int × (Int → Option Int)} {rk : Int → Nat} (h : Found step may n l sv st s rk) :
    ∀ (K : Nat) (a : Int) (f : Int → Option Int) (acc : List Int), rk a < K → 0 ≤ a → a < n → gc s.1 a ≠ 1048576 → (∀ x, rk x ≤ rk a → f x = s.2 x) → ∃ w, wayL l sv K f a acc = some (acc ++ w) ∧ WayB step may l sv s rk a w ∧ w.length ≤ rk a
  | 0, a, f, acc, hK, _, _, _, _ => absurd hK (Nat.not_lt_zero _)
  | K + 1, a, f, acc, hK, h0, h1, hv, hf => by
    rw [wayL]
    by_cases e : a = sv
    · rw [if_pos e]
      exact ⟨[], by simp, e, Nat.zero_le _⟩
    · obtain ⟨i, hi, hb, hf1, hmay, hne, hok, hg, hr⟩ := h.sup a h0 h1 hv e
      have hm := hy.mv l[i] (List.getElem_mem hi)
      have efa : f a = some (i : Int) := (hf a (Nat.le_refl _)).trans hb
      rw [if_neg e, efa, Option.getD_some, if_pos (by omega), rdT' l i hi]
      obtain ⟨w, hw, hW, hl⟩ := way_ex hy h K l[i].f0 (fun x => if x = a then none else f x) (acc ++ [(i : Int)]) (by omega) (by omega) (by omega) hne (fun x hx => by
        have hxa : x ≠ a := fun ex => by
          subst ex
          omega
        simp only [if_neg hxa]
        exact hf x (by omega))
      refine ⟨(i : Int) :: w, by rw [hw]; simp, ⟨i, hi, rfl, e, hf1, hmay, hne, hok, hg, hr, hW⟩, ?_⟩
      rw [List.length_cons]
      omega
/-- Where one comes to by moves, and when. -/
def walkE (step : Int → S58 → Int × Bool) (l : List S58) : List Int → Int → Int → Option (Int × Int)
  | [], a, t => some (a, t)
  | i :: is, a, t => if (rd_T58 l i).f0 ≠ a ∨ (step t (rd_T58 l i)).2 = false then none else walkE step l is (rd_T58 l i).f1 (step t (rd_T58 l i)).1
theorem walkT_E (step : Int → S58 → Int × Bool) (l : List S58) (v : Int) : ∀ (tr : List Int) (a t : Int), walkT step l v tr a t = match walkE step l tr a t with | some p => if p.1 = v then 0 else 16 | none => 16
  | [], a, t => rfl
  | i :: is, a, t => by
    rw [walkT, walkE]
    by_cases h : (rd_T58 l i).f0 ≠ a ∨ (step t (rd_T58 l i)).2 = false
    · rw [if_pos h, if_pos h]
    · rw [if_neg h, if_neg h]
      exact walkT_E step l v is _ _
theorem walkE_append (step : Int → S58 → Int × Bool) (l : List S58) (ys : List Int) : ∀ (xs : List Int) (a t : Int), walkE step l (xs ++ ys) a t = (walkE step l xs a t).bind fun p => walkE step l ys p.1 p.2
  | [], a, t => rfl
  | i :: is, a, t => by
    rw [List.cons_append, walkE, walkE]
    by_cases h : (rd_T58 l i).f0 ≠ a ∨ (step t (rd_T58 l i)).2 = false
    · rw [if_pos h, if_pos h]; rfl
    · rw [if_neg h, if_neg h]
      exact walkE_append step l ys is _ _
section
variable {step : Int → S58 → Int × Bool} {may : S58 → Bool} {n : Int} {l : List S58} {sv st : Int} {s : List Int × (Int → Option Int)} {rk : Int → Nat}
theorem WayB.walk (hown : gc s.1 sv = st) : ∀ (w : List Int) (a : Int), WayB step may l sv s rk a w → walkE step l w.reverse sv st = some (a, gc s.1 a)
  | [], a, h => by
    have : a = sv := h
    subst this
    rw [← hown]; rfl
  | i :: w, a, h => by
    obtain ⟨j, hj, rfl, _, hf1, _, _, hok, hg, _, hW⟩ := h
    rw [List.reverse_cons, walkE_append, WayB.walk hown w _ hW, Option.bind_some, walkE, rdT' l j hj, if_neg (by rw [hok]; simp), walkE, hf1, hg]
theorem WayB.ix : ∀ (w : List Int) (a : Int), WayB step may l sv s rk a w → ∀ i ∈ w, 0 ≤ i ∧ i < (l.length : Int) ∧ may (rd_T58 l i) = true ∧ (rd_T58 l i).f1 ≠ sv ∧ rk (rd_T58 l i).f1 ≤ rk a
  | [], a, h, i, hi => by cases hi
  | x :: w, a, h, i, hi => by
    obtain ⟨j, hj, rfl, hne, hf1, hmay, _, hok, hg, hr, hW⟩ := h
    rcases List.mem_cons.1 hi with rfl | hi
    · rw [rdT' l j hj]
      exact ⟨by omega, by omega, hmay, by rw [hf1]; exact hne, by rw [hf1]; exact Nat.le_refl _⟩
    · obtain ⟨a1, a2, a3, a4, a5⟩ := WayB.ix w _ hW i hi
      exact ⟨a1, a2, a3, a4, by omega⟩
theorem WayB.nodup : ∀ (w : List Int) (a : Int), WayB step may l sv s rk a w → (w.map fun i => (rd_T58 l i).f1).Nodup
  | [], a, h => List.nodup_nil
  | x :: w, a, h => by
    obtain ⟨j, hj, rfl, hne, hf1, hmay, _, hok, hg, hr, hW⟩ := h
    rw [List.map_cons, List.nodup_cons]
    refine ⟨fun hmem => ?_, WayB.nodup w _ hW⟩
    obtain ⟨y, hy, e⟩ := List.mem_map.1 hmem
    have := (WayB.ix w _ hW y hy).2.2.2.2
    rw [e, rdT' l j hj, hf1] at this
    omega
/-- A trail leads to no vessel before its time. -/
theorem Found.trail (hs : StepOK step l) (h : Found step may n l sv st s rk) : ∀ (tr : List Int) (a t a' t' : Int), walkE step l tr a t = some (a', t') → (∀ i ∈ tr, 0 ≤ i ∧ i < (l.length : Int) ∧ may (rd_T58 l i) = true) → gc s.1 a ≤ t → gc s.1 a' ≤ t'
  | [], a, t, a', t', hw, _, ht => by
    simp only [walkE, Option.some.injEq, Prod.mk.injEq] at hw
    obtain ⟨rfl, rfl⟩ := hw
    exact ht
  | i :: is, a, t, a', t', hw, hix, ht => by
    rw [walkE] at hw
    by_cases hc : (rd_T58 l i).f0 ≠ a ∨ (step t (rd_T58 l i)).2 = false
    · rw [if_pos hc] at hw; cases hw
    · rw [if_neg hc] at hw
      have hf : (rd_T58 l i).f0 = a := Classical.byContradiction fun e => hc (.inl e)
      have hok : (step t (rd_T58 l i)).2 = true := by
        cases e : (step t (rd_T58 l i)).2 with
        | true => rfl
        | false => exact absurd (.inr e) hc
      obtain ⟨i0, i1, imay⟩ := hix i (List.mem_cons_self ..)
      have hmem : rd_T58 l i ∈ l := by
        have := rdT' l i.toNat (by omega)
        rw [show ((i.toNat : Nat) : Int) = i by omega] at this
        rw [this]
        exact List.getElem_mem _
      refine Found.trail hs h is _ _ a' t' hw (fun j hj => hix j (List.mem_cons_of_mem _ hj)) ?_
      obtain ⟨ho, hle⟩ := hs.mono _ hmem _ _ ht hok
      have := h.clo _ hmem imay (by rw [hf]; exact ho)
      rw [hf] at this
      omega
end
def cutV (n : Int) (l : List S58) (sv st v u : Int) : Bool := decide (gc (runC soonF (notToF u) n l sv st).1 v = 1048576)
theorem passT_filter (n : Int) (l : List S58) (sv st v : Int) (rr : List Int) : ∀ k, k ≤ rr.length → passT n l sv st v rr k = sv :: ((rr.take k).map fun i => (rd_T58 l i).f1).filter (cutV n l sv st v)
  | 0, _ => rfl
  | k + 1, hk => by
    have eg : rr.getD k 0 = rr[k] := by simp [List.getD, show k < rr.length by omega]
    rw [passT, passT_filter n l sv st v rr k (by omega), List.take_succ_eq_append_getElem (by omega), List.map_append, List.filter_append, eg]
    by_cases hc : (runC soonF (notToF (rd_T58 l rr[k]).f1) n l sv st).1.getD v.toNat 0 = 1048576
    · rw [if_pos hc]
      have : cutV n l sv st v (rd_T58 l rr[k]).f1 = true := decide_eq_true hc
      simp [this]
    · rw [if_neg hc]
      have : cutV n l sv st v (rd_T58 l rr[k]).f1 = false := decide_eq_false hc
      simp [this]
/-- The vessels that all trails pass, in order. -/
def passR (n : Int) (l : List S58) (sv st v : Int) (k : Nat) : List Int := ((List.range k).map fun (i : Nat) => (i : Int)).filter fun u => decide (u = sv) || cutV n l sv st v u
theorem passR_sorted (n : Int) (l : List S58) (sv st v : Int) (k : Nat) : (passR n l sv st v k).Pairwise fun a b => a < b := by
  unfold passR
  refine List.Pairwise.filter _ ?_
  rw [List.pairwise_map]
  exact List.Pairwise.imp (fun h => by omega) (List.pairwise_lt_range)
theorem mergeSort_passR {n : Int} {l : List S58} (hy : YardOK n l) {sv st v : Int} (hst : 0 ≤ st ∧ st ≤ 100000) (hsv : 0 ≤ sv ∧ sv < n) (hv : 0 ≤ v ∧ v < n) {rk : Int → Nat} (h : Found soonF (fun _ => true) n l sv st (runC soonF (fun _ => true) n l sv st) rk) (hne : gc (runC soonF (fun _ => true) n l sv st).1 v ≠ 1048576)
    {w : List Int} (hw : WayB soonF (fun _ => true) l sv (runC soonF (fun _ => true) n l sv st) rk v w) :
    (passT n l sv st v w.reverse w.reverse.length).mergeSort (fun x y => decide (x ≤ y)) = passR n l sv st v n.toNat := by
  have hs := StepOK.soon hy
  rw [passT_filter n l sv st v w.reverse w.reverse.length (Nat.le_refl _), List.take_length]
  have hix := WayB.ix w v hw
  have hnd := WayB.nodup w v hw
  have hmr : ∀ u, u ∈ (w.reverse.map fun i => (rd_T58 l i).f1) ↔ u ∈ (w.map fun i => (rd_T58 l i).f1) := fun u => by simp [List.mem_map]
  have hnd2 : (w.reverse.map fun i => (rd_T58 l i).f1).Nodup := by
    rw [List.map_reverse]
    exact (List.reverse_perm _).nodup_iff.2 hnd
  refine List.Perm.eq_of_pairwise (le := fun a b : Int => a ≤ b) (fun a b _ _ h1 h2 => by omega) ?_ ?_ ?_
  · have := List.pairwise_mergeSort (le := fun x y : Int => decide (x ≤ y)) (fun a b c h1 h2 => by simp only [decide_eq_true_eq] at *; omega) (fun a b => by simp only [Bool.or_eq_true, decide_eq_true_eq]; omega) (sv :: (w.reverse.map fun i => (rd_T58 l i).f1).filter (cutV n l sv st v))
    exact List.Pairwise.imp (fun h => of_decide_eq_true h) this
  · exact List.Pairwise.imp (fun h => by omega) (passR_sorted n l sv st v n.toNat)
  · refine (List.mergeSort_perm _ _).trans ?_
    refine (List.perm_ext_iff_of_nodup ?_ ?_).2 (fun u => ?_)
    · rw [List.nodup_cons]
      refine ⟨fun hm => ?_, List.Pairwise.filter _ hnd2⟩
      have := (hmr sv).1 (List.mem_filter.1 hm).1
      obtain ⟨i, hi, e⟩ := List.mem_map.1 this
      exact (hix i hi).2.2.2.1 e
    · exact List.Pairwise.imp (fun h => by omega) (passR_sorted n l sv st v n.toNat)
    · unfold passR
      rw [List.mem_cons, List.mem_filter, List.mem_filter, hmr u]
      simp only [Bool.or_eq_true, decide_eq_true_eq]
      have hrange : u ∈ ((List.range n.toNat).map fun (i : Nat) => (i : Int)) ↔ 0 ≤ u ∧ u < n := by
        rw [List.mem_map]
        constructor
        · rintro ⟨i, hi, rfl⟩
          have := List.mem_range.1 hi
          omega
        · intro hu
          exact ⟨u.toNat, List.mem_range.2 (by omega), by omega⟩
      rw [hrange]
      constructor
      · rintro (rfl | ⟨hm, hc⟩)
        · exact ⟨hsv, .inl rfl⟩
        · obtain ⟨i, hi, rfl⟩ := List.mem_map.1 hm
          obtain ⟨i0, i1, _⟩ := hix i hi
          have e := rdT' l i.toNat (by omega)
          rw [show ((i.toNat : Nat) : Int) = i by omega] at e
          have hm := hy.mv _ (List.getElem_mem (show i.toNat < l.length by omega))
          rw [← e] at hm
          exact ⟨by omega, .inr hc⟩
      · rintro ⟨hu, rfl | hc⟩
        · exact .inl rfl
        · cases Classical.em (u ∈ (w.map fun i => (rd_T58 l i).f1)) with
          | inl hm => exact .inr ⟨hm, hc⟩
          | inr hm =>
            exfalso
            obtain ⟨rk', h'⟩ := run_found (notToF u) hy hs hst hsv
            have hwalk := WayB.walk h.own w v hw
            have hle := Found.trail hs h' w.reverse sv st v _ hwalk (fun i hi => by
              have hi' : i ∈ w := List.mem_reverse.1 hi
              obtain ⟨i0, i1, _⟩ := hix i hi'
              refine ⟨i0, i1, ?_⟩
              unfold notToF
              simp only [bne_iff_ne, ne_eq]
              exact fun e => hm (List.mem_map.2 ⟨i, hi', e⟩)) (by rw [h'.own]; exact Int.le_refl _)
            have hc' : gc (runC soonF (notToF u) n l sv st).1 v = 1048576 := of_decide_eq_true hc
            have := h.rng v hv.1 hv.2
            omega
/-- The trail that is found. -/
theorem way_found {n : Int} {l : List S58} (hy : YardOK n l) {sv st v : Int} (hst : 0 ≤ st ∧ st ≤ 100000) (hsv : 0 ≤ sv ∧ sv < n) (hv : 0 ≤ v ∧ v < n) (hne : gc (runC soonF (fun _ => true) n l sv st).1 v ≠ 1048576) :
    ∃ rk, Found soonF (fun _ => true) n l sv st (runC soonF (fun _ => true) n l sv st) rk ∧ ∃ w, wayL l sv 1000 (runC soonF (fun _ => true) n l sv st).2 v [] = some w ∧ WayB soonF (fun _ => true) l sv (runC soonF (fun _ => true) n l sv st) rk v w ∧ w.length < n.toNat := by
  obtain ⟨rk, h⟩ := run_found (fun _ => true) hy (StepOK.soon hy) hst hsv
  have hb := h.rkb v hv.1 hv.2 hne
  have h2 := hy.n2
  obtain ⟨w, hw, hW, hl⟩ := way_ex hy h 1000 v (runC soonF (fun _ => true) n l sv st).2 [] (by omega) hv.1 hv.2 hne (fun x _ => rfl)
  exact ⟨rk, h, w, by simpa using hw, hW, by omega⟩
end Go.Proofs.Ytfhmepdbbhcncaa.P
