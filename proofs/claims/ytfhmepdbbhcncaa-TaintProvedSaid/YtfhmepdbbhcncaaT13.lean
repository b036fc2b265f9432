import Derived.Test.YtfhmepdbbhcncaaT1
import Derived.Test.YtfhmepdbbhcncaaT7
import Derived.Test.YtfhmepdbbhcncaaPf39
import Derived.Test.YtfhmepdbbhcncaaPf40
namespace Go.Proofs.Ytfhmepdbbhcncaa.P
open Go.RowKit Go.Proofs.YtfhmepdbbhcncaaW.PrintWords Go.Proofs.YtfhmepdbbhcncaaW.PrintLast Go.Proofs.YtfhmepdbbhcncaaW.PrintMore
set_option linter.unusedVariables false
set_option linter.unusedSimpArgs false

/-! Times of a yard, and when taint comes by them. -/
theorem mn_min (a b : Int) : mn a b = min a b := by unfold mn; split <;> omega
theorem rd_get (c : List Int) (v : Int) : rd c v = gc c v := rfl
theorem gc_take' (c : List Int) (n v : Int) (h0 : 0 ≤ v) (h1 : v < n) : gc (c.take n.toNat) v = gc c v := by
  unfold gc
  rw [List.getD_eq_getElem?_getD, List.getD_eq_getElem?_getD, List.getElem?_take, if_pos (by omega)]
/-- Times of the moves. -/
structure TimesOK (l : List S58) (ts : List Int) : Prop where
  len : ts.length = l.length
  rng : ∀ i (h : i < l.length) (h2 : i < ts.length), l[i].f2.f0 ≤ ts[i] ∧ ts[i] ≤ l[i].f2.f1
def timeAt (l : List S58) (b : List Int) (i : Nat) : Int := (rd_T58 l (i : Int)).f2.f0 + (if b.length = 0 then 0 else (rd b ((i % b.length : Nat) : Int)) % ((rd_T58 l (i : Int)).f2.f1 - (rd_T58 l (i : Int)).f2.f0 + 1))
def timesL (l : List S58) (b : List Int) (k : Nat) : List Int := (List.range k).map (timeAt l b)
theorem timeAt_rng {n : Int} {l : List S58} (hy : YardOK n l) (b : List Int) (i : Nat) (h : i < l.length) : l[i].f2.f0 ≤ timeAt l b i ∧ timeAt l b i ≤ l[i].f2.f1 := by
  have hm := hy.mv l[i] (List.getElem_mem h)
  unfold timeAt
  rw [rdT l i h]
  split
  · omega
  · have h1 := Int.emod_nonneg (rd b ((i % b.length : Nat) : Int)) (show l[i].f2.f1 - l[i].f2.f0 + 1 ≠ 0 by omega)
    have h2 := Int.emod_lt_of_pos (rd b ((i % b.length : Nat) : Int)) (show 0 < l[i].f2.f1 - l[i].f2.f0 + 1 by omega)
    omega
theorem timesOK {n : Int} {l : List S58} (hy : YardOK n l) (b : List Int) : TimesOK l (timesL l b l.length) :=
  ⟨by simp [timesL], fun i h h2 => by
    have : (timesL l b l.length)[i] = timeAt l b i := by simp [timesL]
    rw [this]
    exact timeAt_rng hy b i h⟩
theorem times_l0 {n : Int} {l : List S58} (hy : YardOK n l) (b : List Int) (hb : ∀ x ∈ b, 0 ≤ x ∧ x ≤ 4294967295) : ∀ (d i k : Nat), l.length = i + d → d < k → forecourtlaw05_Times.l0 k b (timesL l b i) (i : Int) n l = some (timesL l b l.length)
  | 0, i, k, hi, hk => by
    obtain ⟨j, rfl⟩ : ∃ j, k = j + 1 := ⟨k - 1, by omega⟩
    rw [forecourtlaw05_Times.l0, if_neg (by omega), show i = l.length by omega]
  | d + 1, i, k, hi, hk => by
    obtain ⟨j, rfl⟩ : ∃ j, k = j + 1 := ⟨k - 1, by omega⟩
    have hlt : i < l.length := by omega
    have hm := hy.mv l[i] (List.getElem_mem hlt)
    have hln := hy.len
    have ih := times_l0 hy b hb d (i + 1) j (by omega) (by omega)
    have hlen : (timesL l b i).length = i := by simp [timesL]
    have es : timesL l b (i + 1) = timesL l b i ++ [timeAt l b i] := by
      unfold timesL
      rw [List.range_succ, List.map_append, List.map_cons, List.map_nil]
    rw [es] at ih
    have hr := timeAt_rng hy b i hlt
    rw [forecourtlaw05_Times.l0, if_pos (by omega), if_pos (by omega), rdT l i hlt, wrap_next i (by omega)]
    by_cases hb0 : b.length = 0
    · rw [if_neg (by omega), if_pos (by omega)]
      have : timeAt l b i = l[i].f2.f0 := by
        unfold timeAt
        rw [rdT l i hlt, if_pos hb0]
        omega
      rw [this] at ih
      exact ih
    · have em : Int.tmod (i : Int) (b.length : Int) = ((i % b.length : Nat) : Int) := by
        rw [Int.tmod_eq_emod_of_nonneg (by omega)]
        rfl
      have hlt2 : i % b.length < b.length := Nat.mod_lt _ (by omega)
      have hrd : rd b ((i % b.length : Nat) : Int) = b[i % b.length] := rdI b _ hlt2
      have hbb := hb _ (List.getElem_mem hlt2)
      have hw : wrap64 (wrap64 (l[i].f2.f1 - l[i].f2.f0) + 1) = l[i].f2.f1 - l[i].f2.f0 + 1 := by
        rw [wrap_ok (l[i].f2.f1 - l[i].f2.f0) (by omega) (by omega), wrap_ok] <;> omega
      have ht : timeAt l b i = l[i].f2.f0 + rd b ((i % b.length : Nat) : Int) % (l[i].f2.f1 - l[i].f2.f0 + 1) := by
        unfold timeAt
        rw [rdT l i hlt, if_neg hb0]
      rw [if_pos (by omega), if_neg (by omega), em, if_pos (by omega), if_pos (by omega), hw, if_neg (by omega), if_pos (by omega), wrap_ok (rd b ((i % b.length : Nat) : Int)) (by rw [hrd]; omega) (by rw [hrd]; omega), Int.tmod_eq_emod_of_nonneg (by rw [hrd]; omega), ← ht, wrap_ok _ (by omega) (by omega)]
      exact ih
theorem times_eq {n : Int} {l : List S58} (hy : YardOK n l) (b : List Int) (hb : ∀ x ∈ b, 0 ≤ x ∧ x ≤ 4294967295) (k : Nat) (hk : 50 ≤ k) : forecourtlaw05_Times.f k n l b = some (timesL l b l.length) := by
  have := hy.len
  exact times_l0 hy b hb l.length 0 k (by omega) (by omega)
/-- The yard in which each move is made at its time. -/
def fixL (l : List S58) (ts : List Int) : List S58 := List.zipWith (fun m t => (⟨m.f0, m.f1, ⟨t, t⟩⟩ : S58)) l ts
theorem fixL_len {l : List S58} {ts : List Int} (h : TimesOK l ts) : (fixL l ts).length = l.length := by
  unfold fixL
  rw [List.length_zipWith, h.len]
  omega
theorem fixL_get {l : List S58} {ts : List Int} (h : TimesOK l ts) (i : Nat) (hi : i < l.length) (hi2 : i < (fixL l ts).length) (hi3 : i < ts.length) : (fixL l ts)[i] = ⟨l[i].f0, l[i].f1, ⟨ts[i], ts[i]⟩⟩ := by
  exact List.getElem_zipWith (f := fun (m : S58) t => (⟨m.f0, m.f1, ⟨t, t⟩⟩ : S58)) (h := hi2)
theorem fixL_ok {n : Int} {l : List S58} {ts : List Int} (hy : YardOK n l) (h : TimesOK l ts) : YardOK n (fixL l ts) := by
  refine ⟨hy.n1, hy.n2, by rw [fixL_len h]; exact hy.len, fun m hm => ?_⟩
  obtain ⟨i, hi, rfl⟩ := List.getElem_of_mem hm
  have hi1 : i < l.length := by rw [fixL_len h] at hi; exact hi
  have hi3 : i < ts.length := by rw [h.len]; exact hi1
  have hmm := hy.mv l[i] (List.getElem_mem hi1)
  have hr := h.rng i hi1 hi3
  rw [fixL_get h i hi1 hi hi3]
  simp only
  omega
theorem comes_mono1 {ts : List Int} {n : Int} {l : List S58} {c : List Int} {x : Int} {r : List Int} : ∀ (d k : Nat), forecourtlaw05_Comes.l1 k ts c x n l = some r → forecourtlaw05_Comes.l1 (k + d) ts c x n l = some r
  | 0, k, h => h
  | d + 1, k, h => (forecourtlaw05_Comes.mono_l (k + d)).2.1 _ _ _ _ _ r (comes_mono1 d k h)
theorem comes_l2 {n : Int} {l : List S58} (hy : YardOK n l) {ts : List Int} (ht : TimesOK l ts) (x9 : Int) (r : List Int) (k0 : Nat) : ∀ (d i k : Nat) (c : List Int), l.length = i + d → k0 + 2 * d + 2 ≤ k → (c.length : Int) = n →
    forecourtlaw05_Comes.l1 k0 ts (((fixL l ts).drop i).foldl (relaxM soonF (-1)) c) (wrap64 (x9 + 1)) n l = some r → forecourtlaw05_Comes.l2 k ts c x9 (i : Int) n l = some r
  | 0, i, k, c, hi, hk, hc, h => by
    obtain ⟨j, rfl⟩ : ∃ j, k = j + 2 := ⟨k - 2, by omega⟩
    rw [forecourtlaw05_Comes.l2, if_neg (by omega), forecourtlaw05_Comes.j3, if_neg (by simp)]
    rw [List.drop_eq_nil_of_le (by rw [fixL_len ht]; omega), List.foldl_nil] at h
    have := comes_mono1 (j - k0) k0 h
    rwa [show k0 + (j - k0) = j by omega] at this
  | d + 1, i, k, c, hi, hk, hc, h => by
    obtain ⟨j, rfl⟩ : ∃ j, k = j + 2 := ⟨k - 2, by omega⟩
    have hlt : i < l.length := by omega
    have hlt2 : i < (fixL l ts).length := by rw [fixL_len ht]; exact hlt
    have hlt3 : i < ts.length := by rw [ht.len]; exact hlt
    have hm := hy.mv l[i] (List.getElem_mem hlt)
    have hln := hy.len
    rw [List.drop_eq_getElem_cons hlt2, List.foldl_cons, fixL_get ht i hlt hlt2 hlt3] at h
    have hlen := relax_len (step := soonF) (but := -1) c ⟨l[i].f0, l[i].f1, ⟨ts[i], ts[i]⟩⟩
    have IH := comes_l2 hy ht x9 r k0 d (i + 1) j _ (by omega) (by omega) (by rw [hlen]; exact hc) h
    rw [forecourtlaw05_Comes.l2, if_pos (by omega), decide_eq_true (by omega), forecourtlaw05_Comes.j3, if_pos rfl, if_pos (by omega), if_pos (by omega), if_pos (by omega), rdT l i hlt, if_pos (by omega), if_pos (by omega), rdI ts i hlt3, wrap_next i (by omega), rd_get, rd_get, mn_min]
    rw [relaxM, if_neg (show ¬ l[i].f1 = -1 by omega)] at IH
    by_cases ho : gc c l[i].f0 ≤ ts[i]
    · rw [if_pos ho, if_pos (by omega), if_pos (by omega)]
      rw [if_pos (show (soonF (gc c l[i].f0) ⟨l[i].f0, l[i].f1, ⟨ts[i], ts[i]⟩⟩).2 = true from decide_eq_true ho)] at IH
      have e : (soonF (gc c l[i].f0) ⟨l[i].f0, l[i].f1, ⟨ts[i], ts[i]⟩⟩).1 = ts[i] := by
        simp only [soonF]
        omega
      simp only [e] at IH
      exact IH
    · rw [if_neg (by omega)]
      rw [if_neg (show ¬ (soonF (gc c l[i].f0) ⟨l[i].f0, l[i].f1, ⟨ts[i], ts[i]⟩⟩).2 = true from fun h => ho (of_decide_eq_true h))] at IH
      exact IH
theorem comes_l1 {n : Int} {l : List S58} (hy : YardOK n l) {ts : List Int} (ht : TimesOK l ts) : ∀ (d x k : Nat) (c : List Int), n = ((x + d : Nat) : Int) → d * (2 * l.length + 3) + 1 ≤ k → (c.length : Int) = n →
    forecourtlaw05_Comes.l1 k ts c (x : Int) n l = some (bfN soonF (-1) (fixL l ts) d c)
  | 0, x, k, c, hx, hk, hc => by
    obtain ⟨j, rfl⟩ : ∃ j, k = j + 1 := ⟨k - 1, by omega⟩
    rw [forecourtlaw05_Comes.l1, if_neg (by omega), bfN]
  | d + 1, x, k, c, hx, hk, hc => by
    rw [Nat.succ_mul] at hk
    obtain ⟨j, rfl⟩ : ∃ j, k = j + 1 := ⟨k - 1, by omega⟩
    have h2 := hy.n2
    rw [forecourtlaw05_Comes.l1, if_pos (by omega), bfN]
    refine comes_l2 hy ht x _ (d * (2 * l.length + 3) + 1) l.length 0 j c (by omega) (by omega) hc ?_
    rw [List.drop_zero, wrap_next x (by omega)]
    exact comes_l1 hy ht d (x + 1) _ _ (by omega) (Nat.le_refl _) (by rw [fold_len]; exact hc)
theorem comes_l0 {n : Int} {l : List S58} (hy : YardOK n l) {ts : List Int} (ht : TimesOK l ts) (sv st : Int) (hsv : 0 ≤ sv ∧ sv < n) : ∀ (d i k : Nat) (c : List Int), n = ((i + d : Nat) : Int) → n.toNat * (2 * l.length + 3) + 2 + d ≤ k → (c.length : Int) = n →
    (∀ j : Nat, j < i → c.getD j 0 = 1048576) → forecourtlaw05_Comes.l0 k ts c (i : Int) n l sv st = some (bfN soonF (-1) (fixL l ts) n.toNat (bf0 n sv st))
  | 0, i, k, c, hi, hk, hc, hall => by
    obtain ⟨j, rfl⟩ : ∃ j, k = j + 1 := ⟨k - 1, by omega⟩
    have ec : c = List.replicate n.toNat 1048576 := by
      rw [List.eq_replicate_iff]
      refine ⟨by omega, fun b hb => ?_⟩
      obtain ⟨q, hq, rfl⟩ := List.getElem_of_mem hb
      have := hall q (by omega)
      simpa [List.getD, hq] using this
    rw [forecourtlaw05_Comes.l0, if_neg (by omega), if_pos hsv.1, if_pos (by omega), ec]
    exact comes_l1 hy ht n.toNat 0 j _ (by omega) (by omega) (by simp; omega)
  | d + 1, i, k, c, hi, hk, hc, hall => by
    obtain ⟨j, rfl⟩ : ∃ j, k = j + 1 := ⟨k - 1, by omega⟩
    have h2 := hy.n2
    rw [forecourtlaw05_Comes.l0, if_pos (by omega), if_pos (by omega), wrap_next i (by omega)]
    refine comes_l0 hy ht sv st hsv d (i + 1) j _ (by omega) (by omega) (by simp; exact hc) (fun q hq => ?_)
    by_cases e : q = i
    · subst e
      have : q < c.length := by omega
      simp [List.getD, this]
    · have h2 := hall q (by omega)
      have : (i : Int).toNat ≠ q := by omega
      rw [List.getD_eq_getElem?_getD, List.getElem?_set_ne this, ← List.getD_eq_getElem?_getD]
      exact h2
/-- When taint comes, by times. -/
def comeF (n : Int) (l : List S58) (sv st : Int) (ts : List Int) : List Int := (runC soonF (fun _ => true) n (fixL l ts) sv st).1
theorem comes_eq {n : Int} {l : List S58} (hy : YardOK n l) {ts : List Int} (ht : TimesOK l ts) {sv st : Int} (hst : 0 ≤ st ∧ st ≤ 100000) (hsv : 0 ≤ sv ∧ sv < n) (k : Nat) (hk : 1700 ≤ k) :
    forecourtlaw05_Comes.f k n l sv st ts = some ((comeF n l sv st ts).take n.toNat) := by
  have h1 := hy.n1
  have h2 := hy.n2
  have h3 := hy.len
  have hyf := fixL_ok hy ht
  have := bf_eq hyf (StepOK.soon hyf) (but := -1) hst hsv (may := fun _ => true) (fun m hm => by have := hyf.mv m hm; exact (decide_eq_true (by omega)).symm)
  unfold comeF
  rw [← this]
  unfold forecourtlaw05_Comes.f
  rw [if_pos (by omega), if_pos (by omega)]
  have hb : n.toNat * (2 * l.length + 3) ≤ 20 * 83 := Nat.mul_le_mul (by omega) (by omega)
  exact comes_l0 hy ht sv st hsv n.toNat 0 k _ (by omega) (by omega) (by simp; omega) (fun j hj => absurd hj (Nat.not_lt_zero _))
/-- Taint comes into no vessel before its arrival. -/
theorem come_ge {n : Int} {l : List S58} (hy : YardOK n l) {ts : List Int} (ht : TimesOK l ts) {sv st : Int} (hst : 0 ≤ st ∧ st ≤ 100000) (hsv : 0 ≤ sv ∧ sv < n) (v : Int) (h0 : 0 ≤ v) (h1 : v < n) :
    gc (runC soonF (fun _ => true) n l sv st).1 v ≤ gc (comeF n l sv st ts) v := by
  have hyf := fixL_ok hy ht
  obtain ⟨rk, A⟩ := run_found (fun _ => true) hy (StepOK.soon hy) hst hsv
  obtain ⟨rk', C⟩ := run_found (fun _ => true) hyf (StepOK.soon hyf) hst hsv
  refine C.top hyf (StepOK.soon hyf) (fun u => gc (runC soonF (fun _ => true) n l sv st).1 u) (by rw [A.own]; exact Int.le_refl _) (fun u u0 u1 => by rcases A.rng u u0 u1 with e | e <;> omega) (fun m hm _ hok => ?_) v h0 h1
  obtain ⟨i, hi, rfl⟩ := List.getElem_of_mem hm
  have hi1 : i < l.length := by rw [fixL_len ht] at hi; exact hi
  have hi3 : i < ts.length := by rw [ht.len]; exact hi1
  have hr := ht.rng i hi1 hi3
  rw [fixL_get ht i hi1 hi hi3] at hok ⊢
  simp only [soonF, decide_eq_true_eq] at hok ⊢
  have := A.clo l[i] (List.getElem_mem hi1) rfl (decide_eq_true (by omega))
  simp only [soonF] at this
  omega
/-- Taint is in each vessel that is sure. -/
theorem come_sure {n : Int} {l : List S58} (hy : YardOK n l) {ts : List Int} (ht : TimesOK l ts) {sv st : Int} (hst : 0 ≤ st ∧ st ≤ 100000) (hsv : 0 ≤ sv ∧ sv < n) {rk : Int → Nat} (U : Found sureF (fun _ => true) n l sv st (runC sureF (fun _ => true) n l sv st) rk) :
    ∀ (k : Nat) (v : Int), rk v < k → 0 ≤ v → v < n → gc (comeF n l sv st ts) v ≤ gc (runC sureF (fun _ => true) n l sv st).1 v
  | 0, v, hk, _, _ => absurd hk (Nat.not_lt_zero _)
  | k + 1, v, hk, h0, h1 => by
    have hyf := fixL_ok hy ht
    obtain ⟨rk', C⟩ := run_found (fun _ => true) hyf (StepOK.soon hyf) hst hsv
    have hC : ∀ u, gc (comeF n l sv st ts) u = gc (runC soonF (fun _ => true) n (fixL l ts) sv st).1 u := fun _ => rfl
    by_cases hv : gc (runC sureF (fun _ => true) n l sv st).1 v = 1048576
    · rw [hv, hC]
      rcases C.rng v h0 h1 with e | e <;> omega
    · by_cases hvs : v = sv
      · subst hvs
        rw [hC, C.own, U.own]
        exact Int.le_refl _
      · obtain ⟨i, hi, _, hf, _, _, hok, hg, hr⟩ := U.sup v h0 h1 hv hvs
        have hm := hy.mv l[i] (List.getElem_mem hi)
        have ih := come_sure hy ht hst hsv U k l[i].f0 (by omega) (by omega) (by omega)
        have hi3 : i < ts.length := by rw [ht.len]; exact hi
        have hi2 : i < (fixL l ts).length := by rw [fixL_len ht]; exact hi
        have hrg := ht.rng i hi hi3
        simp only [sureF, decide_eq_true_eq] at hok hg
        have eg := fixL_get ht i hi hi2 hi3
        have hcl := C.clo (fixL l ts)[i] (List.getElem_mem hi2) rfl
        rw [eg] at hcl
        rw [hC] at ih ⊢
        have := hcl (decide_eq_true (by simp only; omega))
        simp only [soonF] at this
        rw [hf] at this
        omega
end Go.Proofs.Ytfhmepdbbhcncaa.P
