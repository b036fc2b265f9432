import Derived.Test.YtfhmepdbbhcncaaT8a
import Derived.Test.YtfhmepdbbhcncaaT13
import Derived.Test.YtfhmepdbbhcncaaT14
import Derived.Test.YtfhmepdbbhcncaaT2b
namespace Go.Proofs.Ytfhmepdbbhcncaa.P
open Go.RowKit Go.Proofs.YtfhmepdbbhcncaaW.PrintWords Go.Proofs.YtfhmepdbbhcncaaW.PrintLast Go.Proofs.YtfhmepdbbhcncaaW.PrintMore
set_option linter.unusedVariables false
set_option linter.unusedSimpArgs false

/-! TaintProved, without the program. -/
/-- The times by which taint comes as early as can be. -/
def earlyT (A : List Int) (l : List S58) (i : Nat) : Int := if gc A (rd_T58 l (i : Int)).f0 ≤ (rd_T58 l (i : Int)).f2.f1 then max (rd_T58 l (i : Int)).f2.f0 (gc A (rd_T58 l (i : Int)).f0) else (rd_T58 l (i : Int)).f2.f0
def earlyL (A : List Int) (l : List S58) : List Int := (List.range l.length).map (earlyT A l)
theorem gc_checkArr {n : Int} {l : List S58} {sv st : Int} {g : List Int} (h : checkArrF n l sv st g = 0) : (g.length : Int) = n ∧ (∀ x ∈ g, badT x = false) ∧ gc g sv ≤ st ∧ ∀ m ∈ l, lateM g m = false := by
  unfold checkArrF at h
  split at h
  · contradiction
  · split at h
    · cases h
    · rename_i h1
      split at h
      · cases h
      · rename_i h2
        split at h
        · cases h
        · rename_i h3
          refine ⟨Classical.not_not.1 h1, fun x hx => ?_, ?_, fun m hm => ?_⟩
          · cases e : badT x with
            | false => rfl
            | true => exact absurd (List.any_eq_true.2 ⟨x, hx, e⟩) h2
          · have : ¬ st < g.getD sv.toNat 0 := fun e => h3 (.inl e)
            show g.getD sv.toNat 0 ≤ st
            omega
          · cases e : lateM g m with
            | false => rfl
            | true => exact absurd (List.any_eq_true.2 ⟨m, hm, e⟩) (fun e => h3 (.inr e))
theorem mem_gc {g : List Int} {v : Int} (h0 : 0 ≤ v) (h1 : v.toNat < g.length) : gc g v ∈ g := by
  unfold gc
  rw [List.getD_eq_getElem?_getD, List.getElem?_eq_getElem h1]
  exact List.getElem_mem h1
section
variable {n : Int} {l : List S58} {sv st : Int}
theorem arr_len (h : openE n l sv st [] = 0) : ((arrL n l sv st).length : Int) = n := by
  obtain ⟨hy, hs, ht, _⟩ := open_parts h
  have h1 := hy.n1
  have h2 := hy.n2
  obtain ⟨rk, F⟩ := run_found (fun _ => true) hy (StepOK.soon hy) ht hs
  unfold arrL
  rw [if_pos h, List.length_take, F.len]
  omega
theorem arr_gc (h : openE n l sv st [] = 0) (v : Int) (h0 : 0 ≤ v) (h1 : v < n) : gc (arrL n l sv st) v = gc (runC soonF (fun _ => true) n l sv st).1 v := by
  unfold arrL
  rw [if_pos h, gc_take' _ n v h0 h1]
theorem arr_check (h : openE n l sv st [] = 0) : checkArrF n l sv st (arrL n l sv st) = 0 := by
  obtain ⟨hy, hs, ht, _⟩ := open_parts h
  have h2 := hy.n2
  obtain ⟨rk, F⟩ := run_found (fun _ => true) hy (StepOK.soon hy) ht hs
  have hl := arr_len h
  unfold checkArrF
  rw [if_neg (by omega), if_neg (by omega), if_neg, if_neg]
  · rintro (e | e)
    · have : gc (arrL n l sv st) sv = st := by rw [arr_gc h sv hs.1 hs.2, F.own]
      unfold gc at this
      omega
    · obtain ⟨m, hm, e⟩ := List.any_eq_true.1 e
      rw [lateM_iff] at e
      have hmm := hy.mv m hm
      have e1 := arr_gc h m.f0 (by omega) (by omega)
      have e2 := arr_gc h m.f1 (by omega) (by omega)
      unfold gc at e1 e2
      rw [e1, e2] at e
      have := F.clo m hm rfl (decide_eq_true e.1)
      simp only [soonF] at this
      unfold gc at this
      omega
  · rw [List.any_eq_true]
    rintro ⟨x, hx, e⟩
    rw [badT_iff] at e
    obtain ⟨i, hi, rfl⟩ := List.getElem_of_mem hx
    have := arr_gc h (i : Int) (by omega) (by omega)
    have e3 : gc (arrL n l sv st) (i : Int) = (arrL n l sv st)[i] := by
      unfold gc
      rw [List.getD_eq_getElem?_getD, Int.toNat_natCast, List.getElem?_eq_getElem hi]
      rfl
    rcases F.rng (i : Int) (by omega) (by omega) with e4 | e4 <;> omega
theorem given_le (h : openE n l sv st [] = 0) {g : List Int} (hg : checkArrF n l sv st g = 0) : g.length = (arrL n l sv st).length ∧ ∀ v : Int, 0 ≤ v → v < n → gc g v ≤ gc (arrL n l sv st) v := by
  obtain ⟨hy, hs, ht, _⟩ := open_parts h
  obtain ⟨h1, h2, h3, h4⟩ := gc_checkArr hg
  have hl := arr_len h
  obtain ⟨rk, F⟩ := run_found (fun _ => true) hy (StepOK.soon hy) ht hs
  refine ⟨by omega, fun v h0 hv => ?_⟩
  rw [arr_gc h v h0 hv]
  refine F.top hy (StepOK.soon hy) (fun u => gc g u) h3 (fun u u0 u1 => ?_) (fun m hm _ hok => ?_) v h0 hv
  · have := h2 _ (mem_gc u0 (show u.toNat < g.length by omega))
    have hb := badT_iff (gc g u)
    rw [this] at hb
    have : ¬ (gc g u < 0 ∨ 100000 < gc g u ∧ gc g u ≠ 1048576) := fun e => absurd (hb.2 e) (by simp)
    omega
  · have := h4 m hm
    have hb := lateM_iff g m
    rw [this] at hb
    have hno : ¬ (g.getD m.f0.toNat 0 ≤ m.f2.f1 ∧ max (g.getD m.f0.toNat 0) m.f2.f0 < g.getD m.f1.toNat 0) := fun e => absurd (hb.2 e) (by simp)
    simp only [soonF, decide_eq_true_eq] at hok ⊢
    unfold gc at hok ⊢
    omega
theorem car_mem (h : openE n l sv st [] = 0) (x : Int) : x ∈ carL n l sv st ↔ (0 ≤ x ∧ x < (l.length : Int)) ∧ gc (arrL n l sv st) (rd_T58 l x).f0 ≤ (rd_T58 l x).f2.f1 := by
  obtain ⟨hy, hs, ht, _⟩ := open_parts h
  unfold carL
  rw [if_pos h, carT_mem]
  constructor
  · rintro ⟨a, b, e⟩
    have hm := hy.mv _ (rdM a b)
    exact ⟨⟨a, b⟩, by rw [arr_gc h _ (by omega) (by omega)]; exact e⟩
  · rintro ⟨⟨a, b⟩, e⟩
    have hm := hy.mv _ (rdM a b)
    rw [arr_gc h _ (by omega) (by omega)] at e
    exact ⟨a, b, e⟩
theorem car_inc (h : openE n l sv st [] = 0) : (carL n l sv st).Pairwise (· < ·) := by
  unfold carL
  rw [if_pos h]
  exact carT_inc _ _ _
theorem trailE_of (h : openE n l sv st [] = 0) {v : Int} (hv : 0 ≤ v ∧ v < n) : trailE n l sv st v = if gc (arrL n l sv st) v = 1048576 then 5 else 0 := by
  have ho := open_one h hv
  unfold trailE
  rw [if_neg (by omega), arr_gc h v hv.1 hv.2]
theorem early_ok (h : openE n l sv st [] = 0) (k : Nat) (hk : k < l.length) : TimesOK l ((earlyL (arrL n l sv st) l).set k l[k].f2.f1) := by
  obtain ⟨hy, hs, ht, _⟩ := open_parts h
  refine ⟨by simp [earlyL], fun i hi hi2 => ?_⟩
  have hm := hy.mv l[i] (List.getElem_mem hi)
  rw [List.getElem_set]
  by_cases e : k = i
  · subst e
    rw [if_pos rfl]
    omega
  · rw [if_neg e]
    have : (earlyL (arrL n l sv st) l)[i]'(by simpa [earlyL] using hi) = earlyT (arrL n l sv st) l i := by simp [earlyL]
    rw [this]
    unfold earlyT
    rw [rdT l i hi]
    split <;> omega
theorem early_come (h : openE n l sv st [] = 0) (k : Nat) (hk : k < l.length) (hc : gc (arrL n l sv st) l[k].f0 ≤ l[k].f2.f1) : gc (comeF n l sv st ((earlyL (arrL n l sv st) l).set k l[k].f2.f1)) l[k].f0 = gc (arrL n l sv st) l[k].f0 := by
  obtain ⟨hy, hs, ht, _⟩ := open_parts h
  have hmk := hy.mv l[k] (List.getElem_mem hk)
  have hT := early_ok h k hk
  have hyf := fixL_ok hy hT
  obtain ⟨rk, F⟩ := run_found (fun _ => true) hy (StepOK.soon hy) ht hs
  obtain ⟨rk', C⟩ := run_found (fun _ => true) hyf (StepOK.soon hyf) ht hs
  have hC : ∀ u, gc (comeF n l sv st ((earlyL (arrL n l sv st) l).set k l[k].f2.f1)) u = gc (runC soonF (fun _ => true) n (fixL l ((earlyL (arrL n l sv st) l).set k l[k].f2.f1)) sv st).1 u := fun _ => rfl
  have ge := come_ge hy hT ht hs l[k].f0 (by omega) (by omega)
  rw [arr_gc h _ (by omega) (by omega)] at hc ⊢
  have le : ∀ (K : Nat) (v : Int), rk v < K → rk v ≤ rk l[k].f0 → 0 ≤ v → v < n → gc (runC soonF (fun _ => true) n l sv st).1 v ≠ 1048576 → gc (comeF n l sv st ((earlyL (arrL n l sv st) l).set k l[k].f2.f1)) v ≤ gc (runC soonF (fun _ => true) n l sv st).1 v := by
    intro K
    induction K with
    | zero => intro v hK; exact absurd hK (Nat.not_lt_zero _)
    | succ K ih =>
      intro v hK hr h0 h1 hv
      by_cases hvs : v = sv
      · subst hvs
        rw [hC, C.own, F.own]
        exact Int.le_refl _
      · obtain ⟨i, hi, _, hf, _, hne, hok, hg, hrk⟩ := F.sup v h0 h1 hv hvs
        have hm := hy.mv l[i] (List.getElem_mem hi)
        have hik : k ≠ i := fun e => by
          subst e
          omega
        have iv := ih l[i].f0 (by omega) (by omega) (by omega) (by omega) hne
        have hi3 : i < ((earlyL (arrL n l sv st) l).set k l[k].f2.f1).length := by rw [hT.len]; exact hi
        have hi2 : i < (fixL l ((earlyL (arrL n l sv st) l).set k l[k].f2.f1)).length := by rw [fixL_len hT]; exact hi
        have eg := fixL_get hT i hi hi2 hi3
        have hcl := C.clo _ (List.getElem_mem hi2) rfl
        rw [eg] at hcl
        have et : ((earlyL (arrL n l sv st) l).set k l[k].f2.f1)[i] = max l[i].f2.f0 (gc (runC soonF (fun _ => true) n l sv st).1 l[i].f0) := by
          rw [List.getElem_set, if_neg hik]
          have : (earlyL (arrL n l sv st) l)[i]'(by simpa [earlyL] using hi) = earlyT (arrL n l sv st) l i := by simp [earlyL]
          rw [this]
          unfold earlyT
          rw [rdT l i hi, arr_gc h _ (by omega) (by omega)]
          simp only [soonF, decide_eq_true_eq] at hok
          rw [if_pos hok]
        rw [et] at hcl
        rw [hC] at iv ⊢
        have := hcl (decide_eq_true (by simp only; omega))
        simp only [soonF] at this hg
        rw [hf] at this
        omega
  have := le (rk l[k].f0 + 1) l[k].f0 (by omega) (by omega) (by omega) (by omega) (by omega)
  omega
end
end Go.Proofs.Ytfhmepdbbhcncaa.P
