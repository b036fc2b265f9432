import Derived.Test.YtfhmepdbbhcncaaT14
import Derived.Test.YtfhmepdbbhcncaaPg8a
namespace Go.Proofs.Ytfhmepdbbhcncaa.P
open Go.RowKit Go.Proofs.YtfhmepdbbhcncaaW.PrintWords Go.Proofs.YtfhmepdbbhcncaaW.PrintLast Go.Proofs.YtfhmepdbbhcncaaW.PrintMore
set_option linter.unusedVariables false
set_option linter.unusedSimpArgs false

/-! TaintSure. -/
def lateL (l : List S58) (k : Nat) : List Int := (List.range k).map fun (i : Nat) => (wrap64 (((rd_T58 l (i : Int)).f2.f1) - ((rd_T58 l (i : Int)).f2.f0))) % 4294967296
theorem lateL_rng (l : List S58) (k : Nat) : ∀ x ∈ lateL l k, 0 ≤ x ∧ x ≤ 4294967295 := fun x hx => by
  unfold lateL at hx
  obtain ⟨i, _, rfl⟩ := List.mem_map.1 hx
  omega
/-- A trail that returns no error, of Trail. -/
theorem trail_none {n : Int} {l : List S58} {sv st v : Int} (h : openE n l sv st [v] = 0) (hA : gc (runC soonF (fun _ => true) n l sv st).1 v ≠ 1048576) : ∃ t, trailF n l sv st v = some (t, 0) := by
  obtain ⟨hy, hs, ht, hv⟩ := open_parts h
  obtain ⟨rk, F, w, hw, _⟩ := way_found hy ht hs (hv v (by simp)) hA
  unfold trailF
  rw [if_neg (show ¬ openE n l sv st [v] ≠ 0 by omega), if_neg (show ¬ (runC soonF (fun _ => true) n l sv st).1.getD v.toNat 0 = 1048576 from hA), hw]
  exact ⟨_, rfl⟩
section
variable {n : Int} {l : List S58} {sv st : Int}
theorem sure_l1 (h : openE n l sv st [] = 0) (b : List Int) (hb : ∀ x ∈ b, 0 ≤ x ∧ x ≤ 4294967295) (v : Int) (hv : 0 ≤ v ∧ v < n) (hU : gc (runC sureF (fun _ => true) n l sv st).1 v ≠ 1048576) : ∀ (d i k : Nat), l.length = i + d → 1800 + d ≤ k →
    forecourtlaw05_TaintSure.l1 k b 0 v (lateL l i) (i : Int) n l sv st = some true
  | 0, i, k, hi, hk => by
    obtain ⟨j, rfl⟩ : ∃ j, k = j + 1 := ⟨k - 1, by omega⟩
    obtain ⟨hy, hs, ht, _⟩ := open_parts h
    have h2 := hy.n2
    obtain ⟨rk, U⟩ := run_found (fun _ => true) hy (StepOK.sure hy) ht hs
    have hne : ∀ ts, TimesOK l ts → gc ((comeF n l sv st ts).take n.toNat) v ≠ 1048576 ∧ (((comeF n l sv st ts).take n.toNat).length : Int) = n := fun ts hts => by
      have hyf := fixL_ok hy hts
      obtain ⟨rk', C⟩ := run_found (fun _ => true) hyf (StepOK.soon hyf) ht hs
      have := come_sure hy hts ht hs U (rk v + 1) v (by omega) hv.1 hv.2
      have hl : (comeF n l sv st ts).length = 20 := C.len
      rw [gc_take' _ n v hv.1 hv.2, List.length_take, hl]
      refine ⟨?_, by omega⟩
      rcases U.rng v hv.1 hv.2 with e | e
      · omega
      · exact absurd e hU
    obtain ⟨a1, a2⟩ := hne _ (timesOK hy b)
    obtain ⟨b1, b2⟩ := hne _ (timesOK hy (lateL l i))
    rw [forecourtlaw05_TaintSure.l1, if_neg (by omega), times_eq hy b hb j (by omega), Option.bind_some, comes_eq hy (timesOK hy b) ht hs j (by omega), Option.bind_some, times_eq hy (lateL l i) (lateL_rng l i) j (by omega), Option.bind_some, comes_eq hy (timesOK hy (lateL l i)) ht hs j (by omega), Option.bind_some, if_pos rfl, if_pos hv.1, if_pos (by omega), rd_get, if_neg a1, if_pos (by omega), rd_get, if_neg b1]
    rfl
  | d + 1, i, k, hi, hk => by
    obtain ⟨j, rfl⟩ : ∃ j, k = j + 1 := ⟨k - 1, by omega⟩
    obtain ⟨hy, hs, ht, _⟩ := open_parts h
    have h3 := hy.len
    have ih := sure_l1 h b hb v hv hU d (i + 1) j (by omega) (by omega)
    have es : lateL l (i + 1) = lateL l i ++ [(wrap64 (((rd_T58 l (i : Int)).f2.f1) - ((rd_T58 l (i : Int)).f2.f0))) % 4294967296] := by
      unfold lateL
      rw [List.range_succ, List.map_append, List.map_cons, List.map_nil]
    rw [es] at ih
    have hlen : (lateL l i).length = i := by simp [lateL]
    rw [forecourtlaw05_TaintSure.l1, if_pos (by omega), if_pos (by omega), if_pos (by omega), wrap_next i (by omega)]
    exact ih
/-- Behind the loop over what Sure returns. -/
theorem sure_end (h : openE n l sv st [] = 0) (b tr : List Int) (hb : ∀ x ∈ b, 0 ≤ x ∧ x ≤ 4294967295) (v : Int) (hv : 0 ≤ v ∧ v < n) (u : List Int) (k : Nat) (hk : 1900 ≤ k) (sure : Bool) (hsure : sure = true ↔ gc (runC sureF (fun _ => true) n l sv st).1 v ≠ 1048576) :
    forecourtlaw05_TaintSure.l0 k b tr u v sure true (u.length : Int) n l sv st = some true := by
  obtain ⟨hy, hs, ht, _⟩ := open_parts h
  have h3 := hy.len
  obtain ⟨q, rfl⟩ : ∃ q, k = q + 3 := ⟨k - 3, by omega⟩
  have ho := open_one h hv
  have j4 : forecourtlaw05_TaintSure.j4 (q + 1) b v sure false n l sv st = some true := by
    rw [forecourtlaw05_TaintSure.j4, if_neg (by simp)]
    by_cases e : sure = true
    · have hU := hsure.1 e
      obtain ⟨rk, U⟩ := run_found (fun _ => true) hy (StepOK.sure hy) ht hs
      have hA : gc (runC soonF (fun _ => true) n l sv st).1 v ≠ 1048576 := by
        have a := come_sure hy (timesOK hy b) ht hs U (rk v + 1) v (by omega) hv.1 hv.2
        have c := come_ge hy (timesOK hy b) ht hs v hv.1 hv.2
        rcases U.rng v hv.1 hv.2 with e | e
        · omega
        · exact absurd e hU
      obtain ⟨t, htr⟩ := trail_none ho hA
      rw [if_pos e, taint_Trail.f, htr, Option.bind_some]
      exact sure_l1 h b hb v hv hU l.length 0 q (by omega) (by omega)
    · rw [if_neg e]
      rfl
  have j3 : (checkTrailF n l sv st v tr true = 0 → sure = true) → forecourtlaw05_TaintSure.j3 (q + 2) b tr v sure false n l sv st = some true := fun hi => by
    rw [forecourtlaw05_TaintSure.j3, if_neg (by simp), taint_CheckTrail.f, Option.bind_some]
    by_cases e : checkTrailF n l sv st v tr true = 0
    · rw [if_pos e, taint_CheckTrail.f, Option.bind_some]
      have e2 : checkTrailF n l sv st v tr false = 0 := by
        rw [checkTrail_iff] at e ⊢
        obtain ⟨a1, a2, a3, t, a4⟩ := e
        obtain ⟨t1, hw, _⟩ := walk_sure hy tr sv st st v t a4 a3 (Int.le_refl _)
        exact ⟨a1, a2, a3, t1, hw⟩
      rw [e2]
      exact j4
    · rw [if_neg e]
      exact j4
  have hi : checkTrailF n l sv st v tr true = 0 → sure = true := fun e => by
    rw [checkTrail_iff] at e
    obtain ⟨a1, a2, a3, t, a4⟩ := e
    simp only [if_true] at a4
    obtain ⟨rk, U⟩ := run_found (fun _ => true) hy (StepOK.sure hy) ht hs
    have hle := Found.trail (StepOK.sure hy) U tr sv st v t a4 (fun i hi => ⟨(a3 i hi).1, (a3 i hi).2, rfl⟩) (by rw [U.own]; exact Int.le_refl _)
    have := walk_bnd (StepOK.sure hy) tr sv st v t a4 a3 ht.2
    exact hsure.2 (by omega)
  rw [forecourtlaw05_TaintSure.l0, if_neg (by omega), if_pos rfl, taint_CheckTrail.f, Option.bind_some]
  by_cases e : checkTrailF n l sv st v tr true = 0
  · rw [if_pos e, hi e]
    have := j3 hi
    rw [hi e] at this
    exact this
  · rw [if_neg e]
    exact j3 hi
def hasB (u : List Int) (v : Int) : Bool := u.any fun x => x == v
theorem hasB_iff (u : List Int) (v : Int) : hasB u v = true ↔ v ∈ u := by
  unfold hasB
  rw [List.any_eq_true]
  constructor
  · rintro ⟨x, hx, e⟩
    rw [beq_iff_eq] at e
    subst e
    exact hx
  · intro h
    exact ⟨v, h, by simp⟩
theorem sure_l0 (b tr u : List Int) (hu : u.length ≤ 1000) (v : Int) (K0 : Nat) (H : ∀ k, K0 ≤ k → forecourtlaw05_TaintSure.l0 k b tr u v (hasB u v) (hasB u sv) (u.length : Int) n l sv st = some true) : ∀ (d i k : Nat), u.length = i + d → K0 + d ≤ k →
    forecourtlaw05_TaintSure.l0 k b tr u v (hasB (u.take i) v) (hasB (u.take i) sv) (i : Int) n l sv st = some true
  | 0, i, k, hi, hk => by
    have : i = u.length := by omega
    subst this
    rw [List.take_length]
    exact H k (by omega)
  | d + 1, i, k, hi, hk => by
    obtain ⟨j, rfl⟩ : ∃ j, k = j + 1 := ⟨k - 1, by omega⟩
    have hlt : i < u.length := by omega
    have ih := sure_l0 b tr u hu v K0 H d (i + 1) j (by omega) (by omega)
    have es : ∀ x, hasB (u.take (i + 1)) x = (hasB (u.take i) x || (u[i] == x)) := fun x => by
      unfold hasB
      rw [List.take_succ_eq_append_getElem hlt, List.any_append]
      simp
    rw [es, es] at ih
    rw [forecourtlaw05_TaintSure.l0, if_pos (by omega), wrap_next i (by omega), rdI u i hlt]
    generalize hasB (u.take i) v = p at ih
    generalize hasB (u.take i) sv = q at ih
    cases p with
    | true =>
      rw [Bool.true_or] at ih
      rw [if_pos rfl]
      cases q with
      | true =>
        rw [Bool.true_or] at ih
        rw [if_pos rfl]
        exact ih
      | false =>
        rw [Bool.false_or] at ih
        rw [if_neg (by simp), if_pos (by omega)]
        exact ih
    | false =>
      rw [Bool.false_or] at ih
      rw [if_neg (by simp), if_pos (by omega)]
      cases q with
      | true =>
        rw [Bool.true_or] at ih
        rw [if_pos rfl]
        exact ih
      | false =>
        rw [Bool.false_or] at ih
        rw [if_neg (by simp)]
        exact ih
end
end Go.Proofs.Ytfhmepdbbhcncaa.P
