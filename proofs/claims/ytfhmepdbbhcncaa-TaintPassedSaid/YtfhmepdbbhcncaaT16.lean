import Derived.Test.YtfhmepdbbhcncaaT8a
import Derived.Test.YtfhmepdbbhcncaaT14
namespace Go.Proofs.Ytfhmepdbbhcncaa.P
open Go.RowKit Go.Proofs.YtfhmepdbbhcncaaW.PrintWords Go.Proofs.YtfhmepdbbhcncaaW.PrintLast Go.Proofs.YtfhmepdbbhcncaaW.PrintMore
set_option linter.unusedVariables false
set_option linter.unusedSimpArgs false

/-! TaintPassed, without the program. -/
theorem yard_filter {n : Int} {l : List S58} (hy : YardOK n l) (p : S58 → Bool) : YardOK n (l.filter p) :=
  ⟨hy.n1, hy.n2, Nat.le_trans (List.length_filter_le _ _) hy.len, fun m hm => hy.mv m (List.mem_filter.1 hm).1⟩
theorem check_ok {n : Int} {l : List S58} (hy : YardOK n l) : checkYard n l = 0 := by
  unfold checkYard
  have h1 := hy.n1
  have h2 := hy.n2
  have h3 := hy.len
  rw [if_neg (by omega), if_neg (by omega), if_neg]
  rw [List.any_eq_true]
  rintro ⟨m, hm, hb⟩
  have := (badMove_iff n m).1 hb
  have := hy.mv m hm
  unfold BadM at *
  omega
theorem found_filter {n : Int} {l : List S58} (hy : YardOK n l) {sv st : Int} (hst : 0 ≤ st ∧ st ≤ 100000) (hsv : 0 ≤ sv ∧ sv < n) (p : S58 → Bool) (v : Int) (h0 : 0 ≤ v) (h1 : v < n) :
    gc (runC soonF p n l sv st).1 v = gc (runC soonF (fun _ => true) n (l.filter p) sv st).1 v := by
  obtain ⟨r1, F1⟩ := run_found p hy (StepOK.soon hy) hst hsv
  have hy2 := yard_filter hy p
  obtain ⟨r2, F2⟩ := run_found (fun _ => true) hy2 (StepOK.soon hy2) hst hsv
  have a := F2.top hy2 (StepOK.soon hy2) (fun u => gc (runC soonF p n l sv st).1 u) (by rw [F1.own]; exact Int.le_refl _) (fun u u0 u1 => by rcases F1.rng u u0 u1 with e | e <;> omega) (fun m hm _ hok => F1.clo m (List.mem_filter.1 hm).1 (List.mem_filter.1 hm).2 hok) v h0 h1
  have b := F1.top hy (StepOK.soon hy) (fun u => gc (runC soonF (fun _ => true) n (l.filter p) sv st).1 u) (by rw [F2.own]; exact Int.le_refl _) (fun u u0 u1 => by rcases F2.rng u u0 u1 with e | e <;> omega) (fun m hm hmay hok => F2.clo m (List.mem_filter.2 ⟨hm, hmay⟩) rfl hok) v h0 h1
  omega
/-- What Passed and Trail return where there is a trail. -/
structure PassF (n : Int) (l : List S58) (sv st v : Int) (p t : List Int) : Prop where
  mem : ∀ x ∈ p, 0 ≤ x ∧ x < n
  inc : p.Pairwise (· < ·)
  len : p.length ≤ 20
  own : sv ∈ p
  fin : v ∈ p
  on : ∀ T, checkTrailF n l sv st v T false = 0 → ∀ x ∈ p, x = sv ∨ ∃ i ∈ T, (rd_T58 l i).f1 = x
  tr : checkTrailF n l sv st v t false = 0
  wo : ∀ o, 0 ≤ o → o < n → o ≠ sv → ∃ t', trailF n (l.filter (notToF o)) sv st v = some (t', if o ∈ p then 5 else 0)
theorem passF_ex {n : Int} {l : List S58} {sv st v : Int} (h : openE n l sv st [v] = 0) (he : trailE n l sv st v = 0) : ∃ t, trailF n l sv st v = some (t, 0) ∧ passedF n l sv st v = some (passR n l sv st v n.toNat, 0) ∧ PassF n l sv st v (passR n l sv st v n.toNat) t := by
  obtain ⟨t, ht, hp, _, ho⟩ := trail_works n l sv st v
  rw [he] at ht hp
  rw [if_pos rfl] at hp
  obtain ⟨_, hck⟩ := ho he
  obtain ⟨hy, hs, hst, hvv⟩ := open_parts h
  have hv := hvv v (by simp)
  have hn1 := hy.n1
  have hn2 := hy.n2
  have hne : gc (runC soonF (fun _ => true) n l sv st).1 v ≠ 1048576 := fun e => by
    unfold trailE at he
    rw [if_neg (show ¬ openE n l sv st [v] ≠ 0 by omega), if_pos e] at he
    cases he
  have hmem : ∀ x, x ∈ passR n l sv st v n.toNat ↔ (0 ≤ x ∧ x < n) ∧ (x = sv ∨ cutV n l sv st v x = true) := fun x => by
    unfold passR
    rw [List.mem_filter, List.mem_map]
    simp only [Bool.or_eq_true, decide_eq_true_eq]
    constructor
    · rintro ⟨⟨i, hi, rfl⟩, hx⟩
      have := List.mem_range.1 hi
      exact ⟨by omega, hx⟩
    · rintro ⟨hx, hc⟩
      exact ⟨⟨x.toNat, List.mem_range.2 (by omega), by omega⟩, hc⟩
  obtain ⟨rk, F⟩ := run_found (fun _ => true) hy (StepOK.soon hy) hst hs
  refine ⟨t, ht, hp, fun x hx => ((hmem x).1 hx).1, passR_sorted _ _ _ _ _ _, ?_, (hmem sv).2 ⟨hs, .inl rfl⟩, ?_, fun T hT x hx => ?_, hck, fun o h0 h1 hos => ?_⟩
  · have := passR_len n l sv st v n.toNat
    omega
  · refine (hmem v).2 ⟨hv, ?_⟩
    by_cases e : v = sv
    · exact .inl e
    · refine .inr (decide_eq_true ?_)
      obtain ⟨rk', F'⟩ := run_found (notToF v) hy (StepOK.soon hy) hst hs
      refine Classical.byContradiction fun hc => ?_
      obtain ⟨i, hi, _, hf, hmay, _⟩ := F'.sup v hv.1 hv.2 hc e
      unfold notToF at hmay
      rw [bne_iff_ne] at hmay
      exact hmay hf
  · obtain ⟨hxr, hxc⟩ := (hmem x).1 hx
    rcases hxc with hxc | hxc
    · exact .inl hxc
    · refine .inr (Classical.byContradiction fun hno => ?_)
      obtain ⟨rk', F'⟩ := run_found (notToF x) hy (StepOK.soon hy) hst hs
      rw [checkTrail_iff] at hT
      obtain ⟨_, _, hix, tt, hw⟩ := hT
      simp only [Bool.false_eq_true, if_false] at hw
      have hle := Found.trail (StepOK.soon hy) F' T sv st v tt hw (fun i hi => ⟨(hix i hi).1, (hix i hi).2, by
        unfold notToF
        rw [bne_iff_ne]
        exact fun e => hno ⟨i, hi, e⟩⟩) (by rw [F'.own]; exact Int.le_refl _)
      have := walk_bnd (StepOK.soon hy) T sv st v tt hw hix hst.2
      have hc : gc (runC soonF (notToF x) n l sv st).1 v = 1048576 := of_decide_eq_true hxc
      omega
  · have hy2 := yard_filter hy (notToF o)
    have hop : openE n (l.filter (notToF o)) sv st [v] = 0 := by
      unfold openE at h ⊢
      rw [if_neg (by rw [check_ok hy2]; simp)]
      rw [if_neg (by rw [check_ok hy]; simp)] at h
      exact h
    obtain ⟨t', ht', _⟩ := trail_works n (l.filter (notToF o)) sv st v
    refine ⟨t', ?_⟩
    rw [ht']
    congr 2
    unfold trailE
    rw [if_neg (show ¬ openE n (l.filter (notToF o)) sv st [v] ≠ 0 by omega), ← found_filter hy hst hs (notToF o) v hv.1 hv.2]
    by_cases hc : gc (runC soonF (notToF o) n l sv st).1 v = 1048576
    · rw [if_pos hc, if_pos ((hmem o).2 ⟨⟨h0, h1⟩, .inr (decide_eq_true hc)⟩)]
    · rw [if_neg hc, if_neg]
      intro hm
      rcases ((hmem o).1 hm).2 with e | e
      · exact hos e
      · exact hc (of_decide_eq_true e)
end Go.Proofs.Ytfhmepdbbhcncaa.P
