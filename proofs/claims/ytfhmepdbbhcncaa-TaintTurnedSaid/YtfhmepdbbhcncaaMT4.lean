/- Texts of this claim, joined: T19, Pf45, T20, WQ, UC, UJ. -/
import Derived.Test.YtfhmepdbbhcncaaMT3
import Derived.Test.YtfhmepdbbhcncaaWP
namespace Go.Proofs.Ytfhmepdbbhcncaa.P
open Go.RowKit Go.Proofs.YtfhmepdbbhcncaaW.PrintWords Go.Proofs.YtfhmepdbbhcncaaW.PrintLast Go.Proofs.YtfhmepdbbhcncaaW.PrintMore
set_option linter.unusedVariables false
set_option linter.unusedSimpArgs false

/-! TaintTurned, without the program: yards whose vessels have other numbers, and whose times are greater. -/
/-- A move between vessels with other numbers, at greater times. -/
def turnM (σ : Int → Int) (up : Int) (m : S58) : S58 := ⟨σ m.f0, σ m.f1, ⟨m.f2.f0 + up, m.f2.f1 + up⟩⟩
/-- What a step does with greater times. -/
def StepSh (step : Int → S58 → Int × Bool) : Prop :=
  ∀ (m m' : S58) (t up : Int), m'.f2.f0 = m.f2.f0 + up → m'.f2.f1 = m.f2.f1 + up → (step t m).2 = true → (step (t + up) m').2 = true ∧ (step (t + up) m').1 = (step t m).1 + up
theorem StepSh.soon : StepSh soonF := fun m m' t up h0 h1 h => by
  simp only [soonF, decide_eq_true_eq] at h ⊢
  omega
theorem StepSh.sure : StepSh sureF := fun m m' t up h0 h1 h => by
  simp only [sureF, decide_eq_true_eq] at h ⊢
  omega
/-- Nothing comes later along the moves that are as many times later. -/
theorem turn_le {step : Int → S58 → Int × Bool} (hsh : StepSh step) {may may' : S58 → Bool} {n : Int} {l l' : List S58} {σ : Int → Int} {up : Int} (hy : YardOK n l) (hy' : YardOK n l') (hs : StepOK step l) (hs' : StepOK step l')
    {sv st : Int} (hst' : st + up ≤ 100000) {s s' : List Int × (Int → Option Int)} {rk rk' : Int → Nat} (F : Found step may n l sv st s rk) (F' : Found step may' n l' (σ sv) (st + up) s' rk')
    (hm : ∀ m ∈ l, may m = true → ∃ m' ∈ l', may' m' = true ∧ m'.f0 = σ m.f0 ∧ m'.f1 = σ m.f1 ∧ m'.f2.f0 = m.f2.f0 + up ∧ m'.f2.f1 = m.f2.f1 + up) :
    ∀ (K : Nat) (v : Int), rk v < K → 0 ≤ v → v < n → gc s.1 v ≠ 1048576 → gc s'.1 (σ v) ≤ gc s.1 v + up ∧ gc s.1 v + up ≤ 100000
  | 0, v, hK, _, _, _ => absurd hK (Nat.not_lt_zero _)
  | K + 1, v, hK, h0, h1, hv => by
    by_cases hvs : v = sv
    · subst hvs
      rw [F'.own, F.own]
      exact ⟨Int.le_refl _, hst'⟩
    · obtain ⟨i, hi, _, hf, hmay, hne, hok, hg, hrk⟩ := F.sup v h0 h1 hv hvs
      have hmi := hy.mv l[i] (List.getElem_mem hi)
      obtain ⟨ih, _⟩ := turn_le hsh hy hy' hs hs' hst' F F' hm K l[i].f0 (by omega) (by omega) (by omega) hne
      obtain ⟨m', hm', hmay', e0, e1, e2, e3⟩ := hm l[i] (List.getElem_mem hi) hmay
      obtain ⟨a, b⟩ := hsh l[i] m' (gc s.1 l[i].f0) up e2 e3 hok
      have hb := hs'.bnd m' hm' _ a
      rw [← e0] at ih
      obtain ⟨c, d⟩ := hs'.mono m' hm' _ _ ih a
      have := F'.clo m' hm' hmay' c
      rw [e1, hf] at this
      omega
section
variable {n : Int} {l : List S58} {σ τ : Int → Int} {up : Int}
/-- Numbers that can be turned back. -/
structure Turn (n : Int) (σ τ : Int → Int) : Prop where
  r : ∀ v, 0 ≤ v → v < n → 0 ≤ σ v ∧ σ v < n
  r' : ∀ v, 0 ≤ v → v < n → 0 ≤ τ v ∧ τ v < n
  st : ∀ v, 0 ≤ v → v < n → τ (σ v) = v
  ts : ∀ v, 0 ≤ v → v < n → σ (τ v) = v
theorem run_turn {step : Int → S58 → Int × Bool} (hsh : StepSh step) (hs : StepOK step l) (hs' : StepOK step (l.map (turnM σ up))) (hT : Turn n σ τ) {may may' : S58 → Bool} (hy : YardOK n l) (hy' : YardOK n (l.map (turnM σ up)))
    {sv st : Int} (hsv : 0 ≤ sv ∧ sv < n) (hst : 0 ≤ st ∧ st ≤ 100000) (hst' : 0 ≤ st + up ∧ st + up ≤ 100000) (hmay : ∀ m ∈ l, may' (turnM σ up m) = may m) (v : Int) (h0 : 0 ≤ v) (h1 : v < n) :
    gc (runC step may' n (l.map (turnM σ up)) (σ sv) (st + up)).1 (σ v) = if gc (runC step may n l sv st).1 v = 1048576 then 1048576 else gc (runC step may n l sv st).1 v + up := by
  obtain ⟨rk, F⟩ := run_found may hy hs hst hsv
  obtain ⟨rk', F'⟩ := run_found may' hy' hs' hst' (hT.r sv hsv.1 hsv.2)
  have a := turn_le hsh hy hy' hs hs' hst'.2 F F' (fun m hm h => ⟨turnM σ up m, List.mem_map.2 ⟨m, hm, rfl⟩, by rw [hmay m hm]; exact h, rfl, rfl, rfl, rfl⟩) (rk v + 1) v (by omega) h0 h1
  have F2 : Found step may n l (τ (σ sv)) (st + up + -up) (runC step may n l sv st) rk := by
    rw [hT.st sv hsv.1 hsv.2, show st + up + -up = st by omega]
    exact F
  have b := turn_le (σ := τ) (up := -up) hsh hy' hy hs' hs (by omega) F' F2 (fun m' hm' h => by
    obtain ⟨m, hm, rfl⟩ := List.mem_map.1 hm'
    have hmm := hy.mv m hm
    refine ⟨m, hm, by rw [← hmay m hm]; exact h, ?_, ?_, ?_, ?_⟩
    · exact (hT.st m.f0 hmm.1 hmm.2.1).symm
    · exact (hT.st m.f1 hmm.2.2.1 hmm.2.2.2.1).symm
    · show m.f2.f0 = m.f2.f0 + up + -up
      omega
    · show m.f2.f1 = m.f2.f1 + up + -up
      omega) (rk' (σ v) + 1) (σ v) (by omega) (hT.r v h0 h1).1 (hT.r v h0 h1).2
  rw [hT.st v h0 h1] at b
  have c := F'.rng (σ v) (hT.r v h0 h1).1 (hT.r v h0 h1).2
  have d := F.rng v h0 h1
  by_cases e : gc (runC step may n l sv st).1 v = 1048576
  · rw [if_pos e]
    refine Classical.byContradiction fun hc => ?_
    have := b hc
    omega
  · rw [if_neg e]
    have a' := a e
    have hc : gc (runC step may' n (l.map (turnM σ up)) (σ sv) (st + up)).1 (σ v) ≠ 1048576 := by omega
    have := b hc
    omega
/-- Two rising lists with the same numbers. -/
theorem inc_eq : ∀ {a b : List Int}, a.Pairwise (· < ·) → b.Pairwise (· < ·) → (∀ x, x ∈ a ↔ x ∈ b) → a = b
  | [], [], _, _, _ => rfl
  | [], y :: ys, _, _, h => absurd ((h y).2 (List.mem_cons_self ..)) (by simp)
  | x :: xs, [], _, _, h => absurd ((h x).1 (List.mem_cons_self ..)) (by simp)
  | x :: xs, y :: ys, ha, hb, h => by
    rw [List.pairwise_cons] at ha hb
    have e : x = y := by
      rcases List.mem_cons.1 ((h x).1 (List.mem_cons_self ..)) with e | e
      · exact e
      · rcases List.mem_cons.1 ((h y).2 (List.mem_cons_self ..)) with e2 | e2
        · exact e2.symm
        · have := ha.1 _ e2
          have := hb.1 _ e
          omega
    subst e
    rw [inc_eq ha.2 hb.2 fun z => ?_]
    constructor
    · intro hz
      rcases List.mem_cons.1 ((h z).1 (List.mem_cons_of_mem _ hz)) with e | e
      · have := ha.1 z hz
        omega
      · exact e
    · intro hz
      rcases List.mem_cons.1 ((h z).2 (List.mem_cons_of_mem _ hz)) with e | e
      · have := hb.1 z hz
        omega
      · exact e
theorem len_inj {f g : Int → Int} : ∀ {a : List Int} {b : List Int}, a.Nodup → (∀ x ∈ a, f x ∈ b ∧ g (f x) = x) → a.length ≤ b.length
  | [], b, _, _ => Nat.zero_le _
  | x :: xs, b, hn, h => by
    rw [List.nodup_cons] at hn
    have hx := h x (List.mem_cons_self ..)
    have ih := len_inj (f := f) (g := g) (a := xs) (b := b.erase (f x)) hn.2 (fun z hz => by
      have hz2 := h z (List.mem_cons_of_mem _ hz)
      refine ⟨(List.mem_erase_of_ne fun e => ?_).2 hz2.1, hz2.2⟩
      rw [← hz2.2, e, hx.2] at hz
      exact hn.1 hz)
    have hl := List.length_erase_of_mem hx.1
    have := List.length_pos_of_mem hx.1
    simp only [List.length_cons]
    omega
theorem len_turn (hT : Turn n σ τ) {u w : List Int} (hu : u.Pairwise (· < ·)) (hw : w.Pairwise (· < ·)) (hur : ∀ x ∈ u, 0 ≤ x ∧ x < n) (hwr : ∀ x ∈ w, 0 ≤ x ∧ x < n) (h : ∀ x, 0 ≤ x → x < n → (x ∈ u ↔ σ x ∈ w)) : u.length = w.length := by
  have nu : u.Nodup := hu.imp fun h => by omega
  have nw : w.Nodup := hw.imp fun h => by omega
  have a := len_inj (f := σ) (g := τ) (b := w) nu fun x hx => ⟨(h x (hur x hx).1 (hur x hx).2).1 hx, hT.st x (hur x hx).1 (hur x hx).2⟩
  have b := len_inj (f := τ) (g := σ) (b := u) nw fun x hx => ⟨(h _ (hT.r' x (hwr x hx).1 (hwr x hx).2).1 (hT.r' x (hwr x hx).1 (hwr x hx).2).2).2 (by rw [hT.ts x (hwr x hx).1 (hwr x hx).2]; exact hx), hT.ts x (hwr x hx).1 (hwr x hx).2⟩
  omega
theorem open_yard {n : Int} {l : List S58} (hy : YardOK n l) {sv st : Int} (hsv : 0 ≤ sv ∧ sv < n) (hst : 0 ≤ st ∧ st ≤ 100000) : openE n l sv st [] = 0 := by
  unfold openE
  rw [if_neg (by rw [check_ok hy]; simp), if_neg, if_neg (by simp)]
  unfold isV withinB
  simp only [List.all_cons, List.all_nil, Bool.and_true, Bool.and_eq_false_iff, decide_eq_false_iff_not]
  omega
variable (hT : Turn n σ τ) {sv st : Int} (h : openE n l sv st [] = 0) (h' : openE n (l.map (turnM σ up)) (σ sv) (st + up) [] = 0)
include hT h h'
theorem arr_turn (v : Int) (h0 : 0 ≤ v) (h1 : v < n) : gc (arrL n (l.map (turnM σ up)) (σ sv) (st + up)) (σ v) = if gc (arrL n l sv st) v = 1048576 then 1048576 else gc (arrL n l sv st) v + up := by
  obtain ⟨hy, hs, ht, _⟩ := open_parts h
  obtain ⟨hy', hs', ht', _⟩ := open_parts h'
  rw [arr_gc h v h0 h1, arr_gc h' (σ v) (hT.r v h0 h1).1 (hT.r v h0 h1).2]
  exact run_turn StepSh.soon (StepOK.soon hy) (StepOK.soon hy') hT hy hy' hs ht ht' (fun _ _ => rfl) v h0 h1
theorem car_turn : carL n (l.map (turnM σ up)) (σ sv) (st + up) = carL n l sv st := by
  obtain ⟨hy, hs, ht, _⟩ := open_parts h
  refine inc_eq (car_inc h') (car_inc h) fun x => ?_
  rw [car_mem h', car_mem h, List.length_map]
  refine and_congr_right fun hx => ?_
  have e : rd_T58 (l.map (turnM σ up)) x = turnM σ up (rd_T58 l x) := by
    have hi : x.toNat < l.length := by omega
    have e1 := rdT l x.toNat hi
    have e2 := rdT (l.map (turnM σ up)) x.toNat (by simpa using hi)
    rw [show ((x.toNat : Nat) : Int) = x by omega] at e1 e2
    rw [e1, e2, List.getElem_map]
  have hm := hy.mv _ (rdM hx.1 hx.2)
  have ha := arr_turn hT h h' (rd_T58 l x).f0 hm.1 hm.2.1
  have hr := arr_gc h (rd_T58 l x).f0 hm.1 hm.2.1
  rw [e]
  show gc (arrL n (l.map (turnM σ up)) (σ sv) (st + up)) (σ (rd_T58 l x).f0) ≤ (rd_T58 l x).f2.f1 + up ↔ _
  obtain ⟨hy', _⟩ := open_parts h'
  have hm' := hy'.mv (turnM σ up (rd_T58 l x)) (List.mem_map.2 ⟨_, rdM hx.1 hx.2, rfl⟩)
  have hm2 : (rd_T58 l x).f2.f1 + up ≤ 100000 := hm'.2.2.2.2.2.2.2
  rw [ha]
  split <;> omega
theorem sure_turn (x : Int) (h0 : 0 ≤ x) (h1 : x < n) : x ∈ sureL n l sv st ↔ σ x ∈ sureL n (l.map (turnM σ up)) (σ sv) (st + up) := by
  obtain ⟨hy, hs, ht, _⟩ := open_parts h
  obtain ⟨hy', hs', ht', _⟩ := open_parts h'
  rw [(sureR h).mem, (sureR h').mem, run_turn StepSh.sure (StepOK.sure hy) (StepOK.sure hy') hT hy hy' hs ht ht' (may := fun _ => true) (fun _ _ => rfl) x h0 h1]
  obtain ⟨rk', F'⟩ := run_found (fun _ => true) hy' (StepOK.sure hy') ht' (hT.r sv hs.1 hs.2)
  have hr := F'.rng (σ x) (hT.r x h0 h1).1 (hT.r x h0 h1).2
  rw [run_turn StepSh.sure (StepOK.sure hy) (StepOK.sure hy') hT hy hy' hs ht ht' (may := fun _ => true) (fun _ _ => rfl) x h0 h1] at hr
  constructor
  · rintro ⟨_, e⟩
    rw [if_neg e] at hr ⊢
    refine ⟨hT.r x h0 h1, ?_⟩
    obtain ⟨rk, F⟩ := run_found (fun _ => true) hy (StepOK.sure hy) ht hs
    have := F.rng x h0 h1
    omega
  · rintro ⟨_, e⟩
    refine ⟨⟨h0, h1⟩, fun e2 => e ?_⟩
    rw [if_pos e2]
theorem sure_turn_len : (sureL n l sv st).length = (sureL n (l.map (turnM σ up)) (σ sv) (st + up)).length :=
  len_turn hT (sureR h).inc (sureR h').inc (fun x hx => ((sureR h).mem x |>.1 hx).1) (fun x hx => ((sureR h').mem x |>.1 hx).1) (sure_turn hT h h')
theorem err_turn (v : Int) (hv : 0 ≤ v ∧ v < n) : trailE n (l.map (turnM σ up)) (σ sv) (st + up) (σ v) = trailE n l sv st v := by
  rw [trailE_of h hv, trailE_of h' (hT.r v hv.1 hv.2), arr_turn hT h h' v hv.1 hv.2]
  obtain ⟨hy, hs, ht, _⟩ := open_parts h
  obtain ⟨hy', hs', ht', _⟩ := open_parts h'
  obtain ⟨rk, F⟩ := run_found (fun _ => true) hy (StepOK.soon hy) ht hs
  obtain ⟨rk', F'⟩ := run_found (fun _ => true) hy' (StepOK.soon hy') ht' hs'
  have hr := F.rng v hv.1 hv.2
  have hr' := F'.rng (σ v) (hT.r v hv.1 hv.2).1 (hT.r v hv.1 hv.2).2
  rw [← arr_gc h v hv.1 hv.2] at hr
  rw [← arr_gc h' (σ v) (hT.r v hv.1 hv.2).1 (hT.r v hv.1 hv.2).2, arr_turn hT h h' v hv.1 hv.2] at hr'
  by_cases e : gc (arrL n l sv st) v = 1048576
  · rw [if_pos e, if_pos rfl, if_pos e]
  · rw [if_neg e] at hr' ⊢
    rw [if_neg (by omega), if_neg e]
/-- What Passed returns. -/
def passO (n : Int) (l : List S58) (sv st v : Int) : List Int := if trailE n l sv st v = 0 then passR n l sv st v n.toNat else []
omit hT h h' in
theorem pass_mem (n : Int) (l : List S58) (sv st v x : Int) : x ∈ passR n l sv st v n.toNat ↔ (0 ≤ x ∧ x < n) ∧ (x = sv ∨ gc (runC soonF (notToF x) n l sv st).1 v = 1048576) := by
  unfold passR cutV
  rw [List.mem_filter, List.mem_map]
  simp only [Bool.or_eq_true, decide_eq_true_eq]
  constructor
  · rintro ⟨⟨i, hi, rfl⟩, hx⟩
    have := List.mem_range.1 hi
    exact ⟨by omega, hx⟩
  · rintro ⟨hx, hc⟩
    exact ⟨⟨x.toNat, List.mem_range.2 (by omega), by omega⟩, hc⟩
omit hT h h' in
theorem passO_calls (n : Int) (l : List S58) (sv st v : Int) : passedF n l sv st v = some (passO n l sv st v, trailE n l sv st v) := by
  obtain ⟨t, _, hp, _⟩ := trail_works n l sv st v
  exact hp
omit hT h h' in
theorem passO_len (n : Int) (l : List S58) (sv st v : Int) : (passO n l sv st v).length ≤ n.toNat := by
  unfold passO
  split
  · exact passR_len _ _ _ _ _ _
  · simp
omit hT h h' in
theorem passO_mem (n : Int) (l : List S58) (sv st v : Int) : ∀ x ∈ passO n l sv st v, 0 ≤ x ∧ x < n := by
  unfold passO
  split
  · intro x hx
    exact ((pass_mem n l sv st v x).1 hx).1
  · intro x hx; cases hx
theorem pass_turn (v : Int) (hv : 0 ≤ v ∧ v < n) (x : Int) (h0 : 0 ≤ x) (h1 : x < n) : x ∈ passO n l sv st v ↔ σ x ∈ passO n (l.map (turnM σ up)) (σ sv) (st + up) (σ v) := by
  obtain ⟨hy, hs, ht, _⟩ := open_parts h
  obtain ⟨hy', hs', ht', _⟩ := open_parts h'
  unfold passO
  rw [err_turn hT h h' v hv]
  by_cases e : trailE n l sv st v = 0
  · rw [if_pos e, if_pos e, pass_mem, pass_mem]
    have hrt := run_turn StepSh.soon (StepOK.soon hy) (StepOK.soon hy') hT hy hy' hs ht ht' (may := notToF x) (may' := notToF (σ x)) (fun m hm => by
      have hmm := hy.mv m hm
      unfold notToF turnM
      rw [Bool.eq_iff_iff, bne_iff_ne, bne_iff_ne]
      refine not_congr ⟨fun e => ?_, fun e => congrArg σ e⟩
      have e2 := congrArg τ e
      rw [hT.st m.f1 hmm.2.2.1 hmm.2.2.2.1, hT.st x h0 h1] at e2
      exact e2) v hv.1 hv.2
    obtain ⟨rk, F⟩ := run_found (notToF x) hy (StepOK.soon hy) ht hs
    obtain ⟨rk', F'⟩ := run_found (notToF (σ x)) hy' (StepOK.soon hy') ht' hs'
    have hr := F.rng v hv.1 hv.2
    have hr' := F'.rng (σ v) (hT.r v hv.1 hv.2).1 (hT.r v hv.1 hv.2).2
    have hxs : σ x = σ sv ↔ x = sv := ⟨fun e => by
      have e2 := congrArg τ e
      rw [hT.st x h0 h1, hT.st sv hs.1 hs.2] at e2
      exact e2, fun e => congrArg σ e⟩
    rw [hxs]
    refine and_congr ⟨fun _ => hT.r x h0 h1, fun _ => ⟨h0, h1⟩⟩ (or_congr_right ?_)
    rw [hrt] at hr' ⊢
    by_cases e : gc (runC soonF (notToF x) n l sv st).1 v = 1048576
    · rw [if_pos e]
      exact ⟨fun _ => rfl, fun _ => e⟩
    · rw [if_neg e] at hr' ⊢
      exact ⟨fun e2 => absurd e2 e, fun e2 => absurd e2 (by omega)⟩
  · rw [if_neg e, if_neg e]
    exact ⟨fun h => (by cases h), fun h => (by cases h)⟩
omit hT h h' in
theorem passO_inc (n : Int) (l : List S58) (sv st v : Int) : (passO n l sv st v).Pairwise (· < ·) := by
  unfold passO
  split
  · exact passR_sorted _ _ _ _ _ _
  · exact List.Pairwise.nil
theorem pass_turn_len (v : Int) (hv : 0 ≤ v ∧ v < n) : (passO n l sv st v).length = (passO n (l.map (turnM σ up)) (σ sv) (st + up) (σ v)).length :=
  len_turn hT (passO_inc ..) (passO_inc ..) (passO_mem _ _ _ _ _) (passO_mem _ _ _ _ _) (pass_turn hT h h' v hv)
end
/-- The same numbers. -/
theorem Turn.same (n : Int) : Turn n (fun v => v) (fun v => v) := ⟨fun _ a b => ⟨a, b⟩, fun _ a b => ⟨a, b⟩, fun _ _ _ => rfl, fun _ _ _ => rfl⟩
/-- Numbers that are turned round. -/
theorem Turn.round {n t : Int} (hn : 0 < n) : Turn n (fun v => (v + t) % n) (fun v => (v - t) % n) where
  r := fun v _ _ => ⟨Int.emod_nonneg _ (by omega), Int.emod_lt_of_pos _ hn⟩
  r' := fun v _ _ => ⟨Int.emod_nonneg _ (by omega), Int.emod_lt_of_pos _ hn⟩
  st := fun v a b => by
    show ((v + t) % n - t) % n = v
    rw [Int.sub_emod, Int.emod_emod, ← Int.sub_emod, show v + t - t = v by omega, Int.emod_eq_of_lt a b]
  ts := fun v a b => by
    show ((v - t) % n + t) % n = v
    rw [Int.add_emod, Int.emod_emod, ← Int.add_emod, show v - t + t = v by omega, Int.emod_eq_of_lt a b]
/-- A move between numbers that are turned round. -/
def rotM (n t : Int) (m : S58) : S58 := ⟨(m.f0 + t) % n, (m.f1 + t) % n, m.f2⟩
theorem rotM_eq (n t : Int) (l : List S58) : l.map (rotM n t) = l.map (turnM (fun v => (v + t) % n) 0) := by
  refine List.map_congr_left fun m _ => ?_
  unfold rotM turnM
  rw [Int.add_zero, Int.add_zero]
theorem rot_yard {n t : Int} {l : List S58} (hy : YardOK n l) : YardOK n (l.map (rotM n t)) where
  n1 := hy.n1
  n2 := hy.n2
  len := by rw [List.length_map]; exact hy.len
  mv := fun m' hm' => by
    obtain ⟨m, hm, rfl⟩ := List.mem_map.1 hm'
    have h := hy.mv m hm
    have h1 := hy.n1
    have hT := Turn.round (n := n) (t := t) (by omega)
    have a := hT.r m.f0 h.1 h.2.1
    have b := hT.r m.f1 h.2.2.1 h.2.2.2.1
    refine ⟨a.1, a.2, b.1, b.2, fun e => ?_, h.2.2.2.2.2⟩
    have e2 := congrArg (fun v => (v - t) % n) e
    have e3 : m.f0 = m.f1 := (hT.st m.f0 h.1 h.2.1).symm.trans (e2.trans (hT.st m.f1 h.2.2.1 h.2.2.2.1))
    exact h.2.2.2.2.1 e3
/-- What TaintTurned asks of yards whose vessels have other numbers. -/
structure RotOK (n : Int) (l : List S58) (sv st t v : Int) (zl : List S58) : Prop where
  op : openE n zl ((sv + t) % n) st [] = 0
  arr : ∀ u, 0 ≤ u → u < n → gc (arrL n zl ((sv + t) % n) st) ((u + t) % n) = gc (arrL n l sv st) u
  car : carL n zl ((sv + t) % n) st = carL n l sv st
  sure : ∀ u ∈ sureL n l sv st, (u + t) % n ∈ sureL n zl ((sv + t) % n) st
  slen : (sureL n l sv st).length = (sureL n zl ((sv + t) % n) st).length
  err : trailE n zl ((sv + t) % n) st ((v + t) % n) = trailE n l sv st v
  pas : ∀ u ∈ passO n l sv st v, (u + t) % n ∈ passO n zl ((sv + t) % n) st ((v + t) % n)
  plen : (passO n l sv st v).length = (passO n zl ((sv + t) % n) st ((v + t) % n)).length
theorem rot_ok {n : Int} {l : List S58} {sv st : Int} (h : openE n l sv st [] = 0) (t v : Int) (hv : 0 ≤ v ∧ v < n) : RotOK n l sv st t v (l.map (rotM n t)) := by
  obtain ⟨hy, hs, ht, _⟩ := open_parts h
  have h1 := hy.n1
  have hT := Turn.round (n := n) (t := t) (by omega)
  have hop : openE n (l.map (rotM n t)) ((sv + t) % n) st [] = 0 := open_yard (rot_yard hy) (hT.r sv hs.1 hs.2) ht
  have h' : openE n (l.map (turnM (fun v => (v + t) % n) 0)) ((fun v => (v + t) % n) sv) (st + 0) [] = 0 := by
    rw [← rotM_eq, Int.add_zero]
    exact hop
  have c := car_turn hT h h'
  have a := arr_turn hT h h'
  have s := sure_turn hT h h'
  have s2 := sure_turn_len hT h h'
  have e := err_turn hT h h' v hv
  have p := pass_turn hT h h' v hv
  have p2 := pass_turn_len hT h h' v hv
  rw [← rotM_eq, Int.add_zero] at c s2 e p2
  simp only [← rotM_eq, Int.add_zero] at a s p
  refine ⟨hop, fun u h0 h1 => ?_, c, fun u hu => ?_, s2, e, fun u hu => ?_, p2⟩
  · rw [a u h0 h1]
    split
    · rename_i e; exact e.symm
    · rfl
  · have := ((sureR h).mem u).1 hu
    exact (s u this.1.1 this.1.2).1 hu
  · have := passO_mem _ _ _ _ _ u hu
    exact (p u this.1 this.2).1 hu
/-- A move at greater times. -/
def upM (up : Int) (m : S58) : S58 := ⟨m.f0, m.f1, ⟨m.f2.f0 + up, m.f2.f1 + up⟩⟩
/-- What TaintTurned asks of greater times. -/
structure UpOK (n : Int) (l : List S58) (sv st up v : Int) (xl : List S58) : Prop where
  arr : ∀ u, 0 ≤ u → u < n → gc (arrL n xl sv (st + up)) u = if gc (arrL n l sv st) u = 1048576 then 1048576 else gc (arrL n l sv st) u + up
  car : carL n xl sv (st + up) = carL n l sv st
  sure : sureL n xl sv (st + up) = sureL n l sv st
  err : trailE n xl sv (st + up) v = trailE n l sv st v
  pas : passO n xl sv (st + up) v = passO n l sv st v
theorem up_ok {n : Int} {l : List S58} {sv st up : Int} (h : openE n l sv st [] = 0) (h' : openE n (l.map (upM up)) sv (st + up) [] = 0) (v : Int) (hv : 0 ≤ v ∧ v < n) : UpOK n l sv st up v (l.map (upM up)) := by
  have hT := Turn.same n
  have h2 : openE n (l.map (turnM (fun v => v) up)) ((fun v => v) sv) (st + up) [] = 0 := h'
  refine ⟨arr_turn hT h h2, car_turn hT h h2, ?_, err_turn hT h h2 v hv, ?_⟩
  · refine inc_eq (sureR h').inc (sureR h).inc fun x => ?_
    have r := ((sureR h).mem x)
    have r' := ((sureR h').mem x)
    constructor
    · intro hx
      have := (r'.1 hx).1
      exact (sure_turn hT h h2 x this.1 this.2).2 hx
    · intro hx
      have := (r.1 hx).1
      exact (sure_turn hT h h2 x this.1 this.2).1 hx
  · refine inc_eq (passO_inc ..) (passO_inc ..) fun x => ?_
    constructor
    · intro hx
      have := passO_mem _ _ _ _ _ x hx
      exact (pass_turn hT h h2 v hv x this.1 this.2).2 hx
    · intro hx
      have := passO_mem _ _ _ _ _ x hx
      exact (pass_turn hT h h2 v hv x this.1 this.2).1 hx
end Go.Proofs.Ytfhmepdbbhcncaa.P

namespace Go.Proofs.Ytfhmepdbbhcncaa.P
open Go.RowKit Go.Proofs.YtfhmepdbbhcncaaW.PrintWords Go.Proofs.YtfhmepdbbhcncaaW.PrintLast
set_option linter.unusedVariables false
set_option linter.unusedSimpArgs false

/-! ### forecourtlaw05_in: function 45 -/
def forecourtlaw05_in.l0 : Nat → List Int → Int → Int → Option (Bool)
  | 0, _, _, _ => none
  | k + 1, x0, x1, x5 => if x5 < (x0.length : Int) then (if 0 ≤ x5 then (if (rd x0 x5) = x1 then (some true) else (forecourtlaw05_in.l0 k x0 x1 (wrap64 (x5 + 1)))) else (none)) else (some false)
def forecourtlaw05_in.f (k : Nat) (l0 : List Int) (a1 : Int) : Option (Bool) := forecourtlaw05_in.l0 k l0 a1 0
set_option maxHeartbeats 8000000 in
set_option maxRecDepth 100000 in
theorem forecourtlaw05_in.calls (k : Nat) (A0 : Option Addr) (c0 : Nat) (l0 : List Int) (a1 : Int) (r : Bool) (w : World) (hr0 : Kd.C (Kd.int .i64) w A0 l0.length l0) (hc0 : l0.length ≤ c0) (h : forecourtlaw05_in.f k l0 a1 = some r) :
    Calls Try.prog 45 #[.slice A0 l0.length c0, .int .i64 a1] w fun e w' => e = .returned (.bool r) ∧ Drawn0 w w' := by
  have HR0 := Aside0.mk hr0
  have HC0 := Aside0.mk hc0
  clear hr0 hc0
  have H : (forecourtlaw05_in.l0 k l0 a1 0) = some r := h
  clear h
  have H' := Aside0.mk H
  clear H
  go_enter Try.func45, Try.ntmps45
  go_wp2
  go_loopg [5] k (fun kq v5 w' => ∃ (x5_1 : Int), v5 = .int .i64 x5_1 ∧ Aside0 (forecourtlaw05_in.l0 kq l0 a1 x5_1 = some r) ∧ Aside0 (kq ≤ k) ∧ Drawn0 w w')
  case atStart => exact ⟨(0), (by first | rfl | (simp; done) | (simp [*]; done)), H', ⟨Nat.le_refl _⟩, by repeat (first | exact Drawn0.refl _ | apply Drawn0.step)⟩
  case round =>
    clear H'
    try clear p2
    obtain ⟨x5_1, rfl, HA, HK1, ⟨m1, rfl⟩⟩ := hrel
    cases gk with
    | zero => exact absurd HA.out (by simp [forecourtlaw05_in.l0])
    | succ k1 =>
      have H := HA.out
      clear HA
      simp only [forecourtlaw05_in.l0] at H
      by_cases c3 : x5_1 < (l0.length : Int)
      · rw [if_pos c3] at H
        have c3b0 : decide (x5_1 < (l0.length : Int)) = true := decide_eq_true c3
        clear c3
        by_cases c4 : 0 ≤ x5_1
        · rw [if_pos c4] at H
          have c4b0 : decide (0 ≤ x5_1) = true := decide_eq_true c4
          clear c4
          by_cases c5 : (rd l0 x5_1) = a1
          · rw [if_pos c5] at H
            have c5b0 : ((rd l0 x5_1) == a1) = true := beq_iff_eq.mpr c5
            have c5b1 : ((rd l0 x5_1) != a1) = false := bne_eq_false_iff_eq.mpr c5
            clear c5
            obtain rfl := Option.some.inj H
            have p661 : 0 ≤ (x5_1 : Int) := of_decide_eq_true (by first | (with_reducible assumption) | assumption)
            have q661 : x5_1 < (l0.length : Int) := of_decide_eq_true (by first | (with_reducible assumption) | assumption)
            obtain ⟨ad661, e661, hx661_0⟩ := Kd.at_int HR0.out x5_1 p661 q661
            cases e661
            replace p661 := eq_true p661
            replace q661 := eq_true q661
            go_wp2
            go_ret
            exact ⟨by first | rfl | (simp; done) | (simp [*]; done), by repeat (first | exact Drawn0.refl _ | apply Drawn0.step)⟩
          · rw [if_neg c5] at H
            have c5b0 : ((rd l0 x5_1) == a1) = false := beq_eq_false_iff_ne.mpr c5
            have c5b1 : ((rd l0 x5_1) != a1) = true := bne_iff_ne.mpr c5
            have H' := Aside0.mk H
            clear H
            have p661 : 0 ≤ (x5_1 : Int) := of_decide_eq_true (by first | (with_reducible assumption) | assumption)
            have q661 : x5_1 < (l0.length : Int) := of_decide_eq_true (by first | (with_reducible assumption) | assumption)
            obtain ⟨ad661, e661, hx661_0⟩ := Kd.at_int HR0.out x5_1 p661 q661
            cases e661
            replace p661 := eq_true p661
            replace q661 := eq_true q661
            go_wp2
            go_roundg k1
            case measure => have := HK1.out; omega
            case rel => exact ⟨(wrap64 (x5_1 + 1)), (by first | rfl | (simp; done) | (simp [*]; done)), H', ⟨by have := HK1.out; omega⟩, by repeat (first | exact Drawn0.refl _ | apply Drawn0.step)⟩
        · rw [if_neg c4] at H
          exact absurd H (by simp)
      · rw [if_neg c3] at H
        have c3b0 : decide (x5_1 < (l0.length : Int)) = false := decide_eq_false c3
        clear c3
        obtain rfl := Option.some.inj H
        go_wp2
        go_ret
        exact ⟨by first | rfl | (simp; done) | (simp [*]; done), by repeat (first | exact Drawn0.refl _ | apply Drawn0.step)⟩

end Go.Proofs.Ytfhmepdbbhcncaa.P

namespace Go.Proofs.Ytfhmepdbbhcncaa.P
open Go.RowKit Go.Proofs.YtfhmepdbbhcncaaW.PrintWords Go.Proofs.YtfhmepdbbhcncaaW.PrintLast Go.Proofs.YtfhmepdbbhcncaaW.PrintMore
set_option linter.unusedVariables false
set_option linter.unusedSimpArgs false

/-! The two yards of TaintTurned, as the program makes them. -/
/-- The two lists of moves. -/
def turnL : Nat → Int → Int → Int → Int → List S58 → List S58 → List S58 → Option (List S58 × List S58)
  | 0, _, _, _, _, _, _, _ => none
  | k + 1, x2, x3, x11, x15, x404001, x408001, x409001 => if x15 < (x404001.length : Int) then (if 0 ≤ x15 then ((forecourtlaw05_Move.f ((rd_T58 x404001 x15).f0) ((rd_T58 x404001 x15).f1) (wrap64 (((rd_T58 x404001 x15).f2.f0) + (wrap64 (x2)))) (wrap64 (((rd_T58 x404001 x15).f2.f1) + (wrap64 (x2))))).bind fun bt411 => (if x408001.length < 4398046511104 then (if x11 = 0 then (none) else ((forecourtlaw05_Move.f (Int.tmod (wrap64 (((rd_T58 x404001 x15).f0) + (wrap64 (x3)))) x11) (Int.tmod (wrap64 (((rd_T58 x404001 x15).f1) + (wrap64 (x3)))) x11) ((rd_T58 x404001 x15).f2.f0) ((rd_T58 x404001 x15).f2.f1)).bind fun bt418 => (if x409001.length < 4398046511104 then (turnL k x2 x3 x11 (wrap64 (x15 + 1)) x404001 (x408001 ++ [(⟨bt411.1, bt411.2.1, (⟨bt411.2.2.1, bt411.2.2.2⟩ : S56)⟩ : S58)]) (x409001 ++ [(⟨bt418.1, bt418.2.1, (⟨bt418.2.2.1, bt418.2.2.2⟩ : S56)⟩ : S58)])) else (none)))) else (none))) else (none)) else some (x408001, x409001)
theorem turnL_from {n : Int} {l : List S58} (hy : YardOK n l) {up t : Int} (hu : 0 ≤ up ∧ up ≤ 4294967295) (ht : 0 ≤ t ∧ t ≤ 255) : ∀ (d i k : Nat), l.length = i + d → d < k → turnL k up t n (i : Int) l ((l.take i).map (upM up)) ((l.take i).map (rotM n t)) = some (l.map (upM up), l.map (rotM n t))
  | 0, i, k, hi, hk => by
    obtain ⟨j, rfl⟩ : ∃ j, k = j + 1 := ⟨k - 1, by omega⟩
    rw [turnL, if_neg (by omega), List.take_of_length_le (by omega)]
  | d + 1, i, k, hi, hk => by
    obtain ⟨j, rfl⟩ : ∃ j, k = j + 1 := ⟨k - 1, by omega⟩
    have hlt : i < l.length := by omega
    have hlen := hy.len
    have hn1 := hy.n1
    have hn2 := hy.n2
    have hm := hy.mv l[i] (List.getElem_mem hlt)
    have ih := turnL_from hy hu ht d (i + 1) j (by omega) (by omega)
    rw [List.take_succ_eq_append_getElem hlt, List.map_append, List.map_append, List.map_cons, List.map_cons, List.map_nil, List.map_nil] at ih
    have h1 : ((l.take i).map (upM up)).length < 4398046511104 := by rw [List.length_map, List.length_take]; omega
    have h2 : ((l.take i).map (rotM n t)).length < 4398046511104 := by rw [List.length_map, List.length_take]; omega
    rw [turnL, if_pos (by omega), if_pos (by omega), rdT l i hlt, wrap_next i (by omega), wrap_ok up (by omega) (by omega), wrap_ok t (by omega) (by omega)]
    rw [wrap_ok (l[i].f2.f0 + up) (by omega) (by omega), wrap_ok (l[i].f2.f1 + up) (by omega) (by omega), wrap_ok (l[i].f0 + t) (by omega) (by omega), wrap_ok (l[i].f1 + t) (by omega) (by omega)]
    rw [Int.tmod_eq_emod_of_nonneg (by omega), Int.tmod_eq_emod_of_nonneg (by omega)]
    unfold forecourtlaw05_Move.f
    rw [Option.bind_some, if_pos h1, if_neg (by omega), Option.bind_some, if_pos h2]
    exact ih
theorem turnL_eq {n : Int} {l : List S58} (hy : YardOK n l) {up t : Int} (hu : 0 ≤ up ∧ up ≤ 4294967295) (ht : 0 ≤ t ∧ t ≤ 255) : turnL 3000 up t n 0 l [] [] = some (l.map (upM up), l.map (rotM n t)) := by
  have := hy.len
  exact turnL_from hy hu ht l.length 0 3000 (by omega) (by omega)
theorem arr_nn {n : Int} {l : List S58} {sv st : Int} (h : openE n l sv st [] = 0) (v : Int) (h0 : 0 ≤ v) (h1 : v < n) : 0 ≤ gc (arrL n l sv st) v ∧ gc (arrL n l sv st) v ≤ 1048576 := by
  obtain ⟨hy, hs, ht, _⟩ := open_parts h
  obtain ⟨rk, F⟩ := run_found (fun _ => true) hy (StepOK.soon hy) ht hs
  rw [arr_gc h v h0 h1]
  rcases F.rng v h0 h1 with e | e <;> omega
theorem carL_len' (n : Int) (l : List S58) (sv st : Int) : (carL n l sv st).length ≤ l.length := by
  unfold carL
  split
  · exact carT_len _ _ _
  · simp
theorem in_l0 (u : List Int) (v : Int) (hl : u.length ≤ 1000) : ∀ (d i k : Nat), u.length = i + d → d < k → forecourtlaw05_in.l0 k u v (i : Int) = some (decide (v ∈ u.drop i))
  | 0, i, k, hi, hk => by
    obtain ⟨j, rfl⟩ : ∃ j, k = j + 1 := ⟨k - 1, by omega⟩
    rw [forecourtlaw05_in.l0, if_neg (by omega), List.drop_of_length_le (by omega)]
    simp
  | d + 1, i, k, hi, hk => by
    obtain ⟨j, rfl⟩ : ∃ j, k = j + 1 := ⟨k - 1, by omega⟩
    have hlt : i < u.length := by omega
    have e : u.drop i = u[i] :: u.drop (i + 1) := List.drop_eq_getElem_cons hlt
    rw [forecourtlaw05_in.l0, if_pos (by omega), if_pos (by omega), rdI u i hlt, wrap_next i (by omega), in_l0 u v hl d (i + 1) j (by omega) (by omega), e]
    by_cases h : u[i] = v
    · rw [if_pos h]
      simp [h]
    · rw [if_neg h]
      congr 1
      rw [decide_eq_decide, List.mem_cons]
      exact ⟨.inr, fun e => e.elim (fun e => absurd e.symm h) id⟩
theorem in_true {u : List Int} {v : Int} (hl : u.length ≤ 1000) (h : v ∈ u) : forecourtlaw05_in.f 1100 u v = some true := by
  have := in_l0 u v hl u.length 0 1100 (by omega) (by omega)
  rw [List.drop_zero, decide_eq_true h] at this
  exact this
theorem drop_eq_stepB {a b : List Int} {i : Nat} (ha : i < a.length) (hb : i < b.length) : (a.drop i = b.drop i) ↔ (a[i] = b[i] ∧ a.drop (i + 1) = b.drop (i + 1)) := by
  rw [List.drop_eq_getElem_cons ha, List.drop_eq_getElem_cons hb, List.cons.injEq]
theorem ints_l0B (a b : List Int) (hab : a.length = b.length) (hl : a.length ≤ 1000) : ∀ (k i : Nat), a.length < k + i → i ≤ a.length → forecourtlaw05_ints.l0 k a b (i : Int) = some (decide (a.drop i = b.drop i))
  | 0, i, h, hi => by omega
  | k + 1, i, h, hi => by
    rw [forecourtlaw05_ints.l0]
    by_cases hlt : i < a.length
    · rw [if_pos (by omega), if_pos (by omega), if_pos (by omega), rdI a i hlt, rdI b i (by omega), wrap_next i (by omega), ints_l0B a b hab hl k (i + 1) (by omega) (by omega)]
      have := drop_eq_stepB hlt (show i < b.length by omega)
      by_cases e : a[i] = b[i]
      · rw [if_pos e]
        congr 1
        rw [decide_eq_decide]
        exact ⟨fun h => this.2 ⟨e, h⟩, fun h => (this.1 h).2⟩
      · rw [if_neg e]
        congr 1
        symm
        exact decide_eq_false fun h => e (this.1 h).1
    · rw [if_neg (by omega), List.drop_eq_nil_of_le (by omega), List.drop_eq_nil_of_le (by omega)]
      rfl
theorem ints_eqB (a b : List Int) (hl : a.length ≤ 1000) (k : Nat) (hk : 1002 ≤ k) : forecourtlaw05_ints.f k a b = some (decide (a = b)) := by
  unfold forecourtlaw05_ints.f
  by_cases h : (a.length : Int) = (b.length : Int)
  · rw [if_pos h]
    have := ints_l0B a b (by omega) hl k 0 (by omega) (by omega)
    rw [List.drop_zero, List.drop_zero] at this
    exact this
  · rw [if_neg h]
    congr 1
    symm
    exact decide_eq_false fun e => h (by rw [e])
end Go.Proofs.Ytfhmepdbbhcncaa.P

/- Words of the print that the joined words leave out. -/
namespace Go.Proofs.YtfhmepdbbhcncaaW.PrintWords
open Go.RowKit
set_option linter.unusedVariables false
namespace Kd
theorem R_after {α : Type} {d : Kd α} {e base : Nat} {ok : Nat → Prop} {W w1 : World} {u v v1 : Value} {xs : List α} (h : d.R e W base (fun k => ok k ∧ some k ≠ v.ownBlock) u xs) (hg : W.grownBy w1 v.ownBlock) (hat : v1.ownBlock = v.ownBlock ∨ ∃ b, v1.ownBlock = some b ∧ W.heap.size ≤ b) : d.R e w1 base (fun k => ok k ∧ some k ≠ v1.ownBlock) u xs := by
  refine R_mono (R_move (R_bound h) (fun k hk => hg.block k hk.2.2.1 hk.1.2)) (fun k hk => ⟨hk.1.1, ?_⟩)
  rcases hat with hat | ⟨b, hb, hle⟩
  · rw [hat]; exact hk.1.2
  · rw [hb]
    intro he
    injection he with he
    have := hk.2.2.1
    omega
section
variable {w W : World} {u : Value} {g : Nat} {o : Obj}
theorem fresh' (hlt : ∀ k, u.ownBlock = some k → k < W.heap.size) : ∀ k, W.heap.size ≤ k → some k ≠ u.ownBlock := fun k hk he => by have := hlt k he.symm; omega
theorem freshB (hb : w.heap[g]? = some o) : ∀ k, w.heap.size ≤ k → k ≠ g := fun k hk => by have := blk_lt hb; omega
end
theorem R_away {α : Type} {d : Kd α} {e base : Nat} {ok : Nat → Prop} {w : World} {v : Value} {xs : List α} (h : d.R e w base ok v xs) {g : Nat} (hok : ∀ k, ok k → k ≠ g) : some g ≠ v.ownBlock := fun e => hok g (h.1 g e.symm) rfl
end Kd
end Go.Proofs.YtfhmepdbbhcncaaW.PrintWords

namespace Go.Proofs.Ytfhmepdbbhcncaa.P
open Go.RowKit Go.Shelf Go.Proofs.YtfhmepdbbhcncaaW.PrintWords Go.Proofs.YtfhmepdbbhcncaaW.PrintLast Go.Proofs.YtfhmepdbbhcncaaW.PrintMore Go.Proofs.YtfhmepdbbhcncaaM Go.Proofs.YtfhmepdbbhcncaaR
set_option linter.unusedVariables false
set_option linter.unusedSimpArgs false
set_option maxRecDepth 100000

/-- A law's yard and start in their boxes. -/
structure PY (w W : World) (n sv st : Int) (A : Option Addr) (c : Nat) (l : List S58) : Prop where
  y : Blk W w.heap.size 24 #[.int .i64 n, .slice A l.length c]
  s : Blk W (w.heap.size + 1) 26 #[.int .i64 sv, .int .i64 st]
  C : Kd.C k58 W A l.length l
  hc : l.length ≤ c
  g : Below w.heap.size w W
section
variable {w W W' : World} {n sv st : Int} {A : Option Addr} {c : Nat} {l : List S58}
theorem PY.below (h : PY w W n sv st A c l) (hb : Below W.heap.size W W') : PY w W' n sv st A c l :=
  ⟨h.y.below hb h.y.lt, h.s.below hb h.s.lt, Kd.C_below h.C hb, h.hc, below_then h.g h.g.size hb⟩
theorem PY.drew (h : PY w W n sv st A c l) (hd : Drawn0 W W') : PY w W' n sv st A c l := h.below (drawn_below hd)
theorem PY.init (w : World) (n sv st : Int) (A : Option Addr) (c : Nat) (l : List S58) (hC : Kd.C k58 w A l.length l) (hc : l.length ≤ c) : PY w ((w.alloc (.cells #[.int .i64 n, .slice A l.length c] 24)).alloc (.cells #[.int .i64 sv, .int .i64 st] 26)) n sv st A c l := by
  have b0 := (Blk.new w #[.int .i64 n, .slice A l.length c] 24).alloc (.cells #[.int .i64 sv, .int .i64 st] 26)
  have b1 := Blk.new (w.alloc (.cells #[.int .i64 n, .slice A l.length c] 24)) #[.int .i64 sv, .int .i64 st] 26
  simp only [World.size_alloc] at b1
  exact ⟨b0, b1, Kd.C_below hC (boxes2 _ _ _), hc, boxes2 _ _ _⟩
end
end Go.Proofs.Ytfhmepdbbhcncaa.P

/- Words of the print for a region where two operations may come up in either order. -/
namespace Go.Proofs.YtfhmepdbbhcncaaW.PrintLast
open Go.RowKit
open Go.Proofs.YtfhmepdbbhcncaaW.PrintWords (Aside0)
section
variable {P : Program} {ops : Array Oper} {Q : Exit → Act → World → Prop} {md : Region.Mode} {S : World → Prop} {ds : List Nat}
theorem two_ {i j : Nat} {Ni Nj : Option Tmp} {oi oj : Oper} {fuel : Nat} {l : Array Bool} {a : Act} {w : World} (li lj : Array Bool) (hi : ops[i]? = some oi) (hj : ops[j]? = some oj) (hNi : oi.dst = Ni) (hNj : oj.dst = Nj)
    (hc : (Region.ready md ops l == [i, j] && l.setIfInBounds i true == li && l.setIfInBounds j true == lj) = true) (hdi : i ∉ ds) (hdj : j ∉ ds)
    (h1 : ∀ K : Act → World → Prop, Shut (∀ a' w', S w' → (S w' → wpAnyLast P md ops Q S ds fuel li a' w') → K a' w') → if Region.wanted oi (yielded ops a.tmps) = true then Oper.wp P oi a w K Q else K (a.put Ni undef) w)
    (h2 : ∀ K : Act → World → Prop, Shut (∀ a' w', S w' → (S w' → wpAnyLast P md ops Q S ds fuel lj a' w') → K a' w') → if Region.wanted oj (yielded ops a.tmps) = true then Oper.wp P oj a w K Q else K (a.put Nj undef) w) :
    wpAnyLast P md ops Q S ds (fuel + 1) l a w := by
  subst hNi
  subst hNj
  simp only [Bool.and_eq_true, beq_iff_eq] at hc
  obtain ⟨⟨h3, h4⟩, h5⟩ := hc
  subst h4
  subst h5
  exact wpAnyLast_ready h3 (by simp) (AllReadyL.cons hi hdi (fun K hK => h1 K hK) (AllReadyL.cons hj hdj (fun K hK => h2 K hK) AllReadyL.nil))
/-- The act with some destinations filled. -/
def putAll : Act → List (Tmp × Value) → Act
  | a, [] => a
  | a, (n, v) :: r => putAll (a.put (some n) v) r
/-- What follows, once: s the values that the orders leave, F what is known of them and of the world. -/
theorem join_ {σ : Type} {fuel : Nat} {l : Array Bool} {a : Act} {w : World} (fuel' : Nat) (l' : Array Bool) (ns : σ → List (Tmp × Value)) (F : σ → World → Prop)
    (hcont : ∀ s w', F s w' → wpAnyLast P md ops Q S ds fuel' l' (putAll a (ns s)) w')
    (h : (∀ s w', F s w' → wpAnyLast P md ops Q S ds fuel' l' (putAll a (ns s)) w') → wpAnyLast P md ops Q S ds fuel l a w) : wpAnyLast P md ops Q S ds fuel l a w := h hcont
end
section
variable {md : Region.Mode} {ops : Array Oper} {T : Bool × List (List Nat × List Nat)} {l l' li lj lk : Array Bool} {ds : List Nat} {i j k : Nat}
theorem two_of (hT : rtab md ops = T) (h : (readyT T.2 l.toList == [i, j] && l.toList.set i true == li.toList && l.toList.set j true == lj.toList) = true) : (Region.ready md ops l == [i, j] && l.setIfInBounds i true == li && l.setIfInBounds j true == lj) = true := by
  simp only [Bool.and_eq_true] at h ⊢
  obtain ⟨⟨h1, h2⟩, h3⟩ := h
  subst hT
  exact ⟨⟨by rw [ready_eq]; exact h1, set_of h2⟩, set_of h3⟩
end
end Go.Proofs.YtfhmepdbbhcncaaW.PrintLast

