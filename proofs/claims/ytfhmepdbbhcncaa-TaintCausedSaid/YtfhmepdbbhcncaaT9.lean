import Derived.Test.YtfhmepdbbhcncaaX
import Derived.Test.YtfhmepdbbhcncaaT4
namespace Go.Proofs.Ytfhmepdbbhcncaa.P
open Go.RowKit Go.Proofs.YtfhmepdbbhcncaaW.PrintWords Go.Proofs.YtfhmepdbbhcncaaW.PrintLast Go.Proofs.YtfhmepdbbhcncaaW.PrintMore
set_option linter.unusedVariables false
set_option linter.unusedSimpArgs false

/-! Up to when taint has to be in each vessel, so that a move carries it. -/
/-- A start by which a move carries taint. -/
def carr (n : Int) (l : List S58) (v t : Int) (m : S58) : Prop := gc (runC soonF (fun _ => true) n l v t).1 m.f0 ≤ m.f2.f1
theorem latMove_get {n : Int} {l : List S58} (hy : YardOK n l) {m : S58} (hm : m ∈ l) (o : List Int) (ho : o.length = 20) (v : Int) (h0 : 0 ≤ v) (h1 : v < 20) :
    gc (latMove o m) v = if v = m.f0 ∧ m.f2.f0 ≤ gc o m.f1 then max (gc o v) (min (gc o m.f1) m.f2.f1) else gc o v := by
  have hmm := hy.mv m hm
  unfold latMove
  by_cases hc : m.f2.f0 ≤ o.getD m.f1.toNat 0
  · rw [if_pos hc, gc_set o m.f0 v _ (by omega) h0 (by omega)]
    by_cases e : v = m.f0
    · subst e
      rw [if_pos rfl, if_pos ⟨rfl, hc⟩]
      rfl
    · rw [if_neg e, if_neg (fun h => e h.1)]
  · rw [if_neg hc, if_neg (fun h => hc h.2)]
theorem latMove_le {n : Int} {l : List S58} (hy : YardOK n l) {m : S58} (hm : m ∈ l) (o : List Int) (ho : o.length = 20) (v : Int) (h0 : 0 ≤ v) (h1 : v < 20) : gc o v ≤ gc (latMove o m) v := by
  rw [latMove_get hy hm o ho v h0 h1]
  split <;> omega
theorem latFold_le {n : Int} {l : List S58} (hy : YardOK n l) : ∀ (ms : List S58) (o : List Int), (∀ m ∈ ms, m ∈ l) → o.length = 20 → ∀ v, 0 ≤ v → v < 20 → gc o v ≤ gc (ms.foldl latMove o) v
  | [], o, _, _, v, _, _ => Int.le_refl _
  | m :: ms, o, hm, ho, v, h0, h1 => by
    rw [List.foldl_cons]
    have a := latFold_le hy ms (latMove o m) (fun x hx => hm x (List.mem_cons_of_mem _ hx)) (by rw [latMove_len, ho]) v h0 h1
    have b := latMove_le hy (hm m (List.mem_cons_self ..)) o ho v h0 h1
    omega
theorem gc_ext20 {a b : List Int} (ha : a.length = 20) (hb : b.length = 20) (h : ∀ v : Int, 0 ≤ v → v < 20 → gc a v = gc b v) : a = b :=
  gc_ext (by omega) (fun v h0 h1 => h v h0 (by omega))
theorem latFold_fix {n : Int} {l : List S58} (hy : YardOK n l) : ∀ (ms : List S58) (o : List Int), (∀ m ∈ ms, m ∈ l) → o.length = 20 → ms.foldl latMove o = o → ∀ m ∈ ms, latMove o m = o
  | [], o, _, _, _, m, hm => by cases hm
  | x :: ms, o, hx, ho, hf, m, hm => by
    rw [List.foldl_cons] at hf
    have hl1 : (latMove o x).length = 20 := by rw [latMove_len, ho]
    have e : latMove o x = o := gc_ext20 hl1 ho (fun v h0 h1 => by
      have a := latFold_le hy ms (latMove o x) (fun y hy' => hx y (List.mem_cons_of_mem _ hy')) hl1 v h0 h1
      have b := latMove_le hy (hx x (List.mem_cons_self ..)) o ho v h0 h1
      rw [hf] at a
      omega)
    rcases List.mem_cons.1 hm with rfl | hm
    · exact e
    · rw [e] at hf
      exact latFold_fix hy ms o (fun y hy' => hx y (List.mem_cons_of_mem _ hy')) ho hf m hm
/-- What is so between the rounds. -/
structure LatI (n : Int) (l : List S58) (m0 : S58) (o : List Int) : Prop where
  len : o.length = 20
  val : ∀ v, 0 ≤ v → v < 20 → gc o v = -1 ∨ ∃ m ∈ l, gc o v = m.f2.f1
  start : m0.f2.f1 ≤ gc o m0.f0
  supp : ∀ v t, 0 ≤ v → v < n → 0 ≤ t → t ≤ gc o v → carr n l v t m0
theorem LatI.move {n : Int} {l : List S58} (hy : YardOK n l) {m0 m : S58} (h0m : m0 ∈ l) (hm : m ∈ l) {o : List Int} (h : LatI n l m0 o) : LatI n l m0 (latMove o m) := by
  have hmm := hy.mv m hm
  have h0mm := hy.mv m0 h0m
  have hn := hy.n2
  have hs := StepOK.soon hy
  have hle100 : ∀ v, 0 ≤ v → v < 20 → gc o v ≤ 100000 := fun v h0 h1 => by
    rcases h.val v h0 h1 with e | ⟨x, hx, e⟩
    · omega
    · have := hy.mv x hx
      omega
  refine ⟨by rw [latMove_len, h.len], fun v h0 h1 => ?_, ?_, fun v t h0 h1 ht htv => ?_⟩
  · rw [latMove_get hy hm o h.len v h0 h1]
    by_cases hc : v = m.f0 ∧ m.f2.f0 ≤ gc o m.f1
    · rw [if_pos hc]
      rcases Int.le_total (gc o v) (min (gc o m.f1) m.f2.f1) with e | e
      · rw [Int.max_eq_right e]
        rcases Int.le_total (gc o m.f1) m.f2.f1 with e2 | e2
        · rw [Int.min_eq_left e2]
          exact h.val m.f1 (by omega) (by omega)
        · rw [Int.min_eq_right e2]
          exact .inr ⟨m, hm, rfl⟩
      · rw [Int.max_eq_left e]
        exact h.val v h0 h1
    · rw [if_neg hc]
      exact h.val v h0 h1
  · have := latMove_le hy hm o h.len m0.f0 (by omega) (by omega)
    have := h.start
    omega
  · rw [latMove_get hy hm o h.len v h0 (by omega)] at htv
    by_cases htv' : t ≤ gc o v
    · exact h.supp v t h0 h1 ht htv'
    · by_cases hc : v = m.f0 ∧ m.f2.f0 ≤ gc o m.f1
      · rw [if_pos hc] at htv
        obtain ⟨rfl, hlo⟩ := hc
        have hle := hle100 m.f1 (by omega) (by omega)
        have hnext := h.supp m.f1 (max t m.f2.f0) (by omega) (by omega) (by omega) (by omega)
        obtain ⟨rk1, F1⟩ := run_found (fun _ => true) hy hs (sv := m.f0) (st := t) (by omega) (by omega)
        obtain ⟨rk2, F2⟩ := run_found (fun _ => true) hy hs (sv := m.f1) (st := max t m.f2.f0) (by omega) (by omega)
        have hd := F2.top hy hs (fun u => gc (runC soonF (fun _ => true) n l m.f0 t).1 u) (by
          have ok : (soonF (gc (runC soonF (fun _ => true) n l m.f0 t).1 m.f0) m).2 = true := by
            rw [F1.own]
            exact decide_eq_true (by omega)
          have := F1.clo m hm rfl ok
          rw [F1.own] at this
          exact this) (fun u u0 u1 => by rcases F1.rng u u0 u1 with e | e <;> omega) (fun x hx hmay hok => F1.clo x hx hmay hok) m0.f0 (by omega) (by omega)
        unfold carr at hnext ⊢
        simp only at hd
        omega
      · rw [if_neg hc] at htv
        exact absurd htv htv'
theorem LatI.fold {n : Int} {l : List S58} (hy : YardOK n l) {m0 : S58} (h0m : m0 ∈ l) : ∀ (ms : List S58) (o : List Int), (∀ m ∈ ms, m ∈ l) → LatI n l m0 o → LatI n l m0 (ms.foldl latMove o)
  | [], o, _, h => h
  | m :: ms, o, hm, h => by
    rw [List.foldl_cons]
    exact LatI.fold hy h0m ms _ (fun x hx => hm x (List.mem_cons_of_mem _ hx)) (h.move hy h0m (hm m (List.mem_cons_self ..)))
theorem gc_lat0 (m : S58) (v : Int) (hm : 0 ≤ m.f0) (h0 : 0 ≤ v) (h1 : v < 20) : gc (lat0 m) v = if v = m.f0 then m.f2.f1 else -1 := by
  unfold lat0
  rw [gc_set _ _ _ _ hm h0 (by simp; omega)]
  split
  · rfl
  · unfold gc
    rw [List.getD_eq_getElem?_getD, List.getElem?_replicate, if_pos (by omega)]
    rfl
theorem LatI.init {n : Int} {l : List S58} (hy : YardOK n l) {m0 : S58} (h0m : m0 ∈ l) : LatI n l m0 (lat0 m0) := by
  have hmm := hy.mv m0 h0m
  have hn := hy.n2
  refine ⟨by simp [lat0], fun v h0 h1 => ?_, ?_, fun v t h0 h1 ht htv => ?_⟩
  · rw [gc_lat0 m0 v (by omega) h0 h1]
    split
    · exact .inr ⟨m0, h0m, rfl⟩
    · exact .inl rfl
  · rw [gc_lat0 m0 m0.f0 (by omega) (by omega) (by omega), if_pos rfl]
    exact Int.le_refl _
  · rw [gc_lat0 m0 v (by omega) h0 (by omega)] at htv
    by_cases e : v = m0.f0
    · subst e
      rw [if_pos rfl] at htv
      obtain ⟨rk, F⟩ := run_found (fun _ => true) hy (StepOK.soon hy) (sv := m0.f0) (st := t) (by omega) (by omega)
      unfold carr
      rw [F.own]
      exact htv
    · rw [if_neg e] at htv
      omega
theorem sum_le {f g : Nat → Nat} : ∀ xs : List Nat, (∀ v ∈ xs, f v ≤ g v) → (xs.map f).sum ≤ (xs.map g).sum
  | [], _ => Nat.le_refl _
  | x :: xs, h => by
    simp only [List.map_cons, List.sum_cons]
    have a := h x (List.mem_cons_self ..)
    have b := sum_le xs (fun v hv => h v (List.mem_cons_of_mem _ hv))
    omega
theorem sum_lt {f g : Nat → Nat} : ∀ xs : List Nat, (∀ v ∈ xs, f v ≤ g v) → (∃ v ∈ xs, f v < g v) → (xs.map f).sum < (xs.map g).sum
  | [], _, ⟨v, hv, _⟩ => by cases hv
  | x :: xs, h, ⟨v, hv, hlt⟩ => by
    simp only [List.map_cons, List.sum_cons]
    have a := h x (List.mem_cons_self ..)
    have hr : ∀ v ∈ xs, f v ≤ g v := fun v hv => h v (List.mem_cons_of_mem _ hv)
    rcases List.mem_cons.1 hv with rfl | hv
    · have b := sum_le xs hr
      omega
    · have b := sum_lt xs hr ⟨v, hv, hlt⟩
      omega
theorem count_le {p q : S58 → Bool} : ∀ l : List S58, (∀ m ∈ l, p m = true → q m = true) → l.countP p ≤ l.countP q
  | [], _ => Nat.le_refl _
  | x :: xs, h => by
    have b := count_le xs (fun m hm => h m (List.mem_cons_of_mem _ hm))
    have a := h x (List.mem_cons_self ..)
    rw [List.countP_cons, List.countP_cons]
    cases hp : p x with
    | true => rw [a hp]; simp; exact b
    | false => simp; omega
theorem count_lt {p q : S58 → Bool} : ∀ l : List S58, (∀ m ∈ l, p m = true → q m = true) → (∃ m ∈ l, p m = false ∧ q m = true) → l.countP p < l.countP q
  | [], _, ⟨m, hm, _⟩ => by cases hm
  | x :: xs, h, ⟨m, hm, hp, hq⟩ => by
    have hr : ∀ m ∈ xs, p m = true → q m = true := fun m hm => h m (List.mem_cons_of_mem _ hm)
    have a := h x (List.mem_cons_self ..)
    rw [List.countP_cons, List.countP_cons]
    rcases List.mem_cons.1 hm with rfl | hm
    · have b := count_le xs hr
      rw [hp, hq]
      simp
      omega
    · have b := count_lt xs hr ⟨m, hm, hp, hq⟩
      cases hpx : p x with
      | true => rw [a hpx]; simp; exact b
      | false => simp; omega
def mu (l : List S58) (o : List Int) : Nat := ((List.range 20).map fun (v : Nat) => l.countP fun m => decide (m.f2.f1 ≤ gc o (v : Int))).sum
theorem sum_const (c : Nat) : ∀ xs : List Nat, (xs.map fun _ => c).sum = xs.length * c
  | [] => by simp
  | x :: xs => by
    rw [List.map_cons, List.sum_cons, sum_const c xs, List.length_cons, Nat.succ_mul]
    omega
theorem mu_le (l : List S58) (o : List Int) : mu l o ≤ 20 * l.length := by
  have h := sum_le (f := fun v : Nat => l.countP fun m => decide (m.f2.f1 ≤ gc o (v : Int))) (g := fun _ => l.length) (List.range 20) (fun v _ => List.countP_le_length)
  rw [sum_const, List.length_range] at h
  exact h
theorem mu_lt {n : Int} {l : List S58} (hy : YardOK n l) {m0 : S58} (h0m : m0 ∈ l) {o : List Int} (h : LatI n l m0 o) (hne : latStep l o ≠ o) : mu l o < mu l (latStep l o) := by
  have hle := latFold_le hy l o (fun m hm => hm) h.len
  have h2 : LatI n l m0 (latStep l o) := h.fold hy h0m l o (fun m hm => hm)
  have hex : ∃ v : Int, 0 ≤ v ∧ v < 20 ∧ gc o v ≠ gc (latStep l o) v := Classical.byContradiction fun hno => hne (gc_ext20 h2.len h.len fun v h0 h1 => Classical.byContradiction fun e => hno ⟨v, h0, h1, fun e2 => e e2.symm⟩)
  obtain ⟨v, h0, h1, hd⟩ := hex
  have hlv := hle v h0 h1
  have hlt : gc o v < gc (latStep l o) v := by
    have : gc (latStep l o) v = gc (l.foldl latMove o) v := rfl
    omega
  refine sum_lt _ (fun u hu => count_le l (fun m hm hp => ?_)) ⟨v.toNat, List.mem_range.2 (by omega), count_lt l (fun m hm hp => ?_) ?_⟩
  · simp only [decide_eq_true_eq] at hp ⊢
    have := hle (u : Int) (by omega) (by have := List.mem_range.1 hu; omega)
    have e : gc (latStep l o) (u : Int) = gc (l.foldl latMove o) (u : Int) := rfl
    omega
  · simp only [decide_eq_true_eq] at hp ⊢
    rw [show ((v.toNat : Nat) : Int) = v by omega] at hp ⊢
    omega
  · rw [show ((v.toNat : Nat) : Int) = v by omega]
    have hov : -1 ≤ gc o v := by
      rcases h.val v h0 h1 with e | ⟨m, hm, e⟩
      · omega
      · have := hy.mv m hm
        omega
    rcases h2.val v h0 h1 with e | ⟨m, hm, e⟩
    · omega
    · exact ⟨m, hm, decide_eq_false (by omega), decide_eq_true (by omega)⟩
theorem latF_ex {n : Int} {l : List S58} (hy : YardOK n l) {m0 : S58} (h0m : m0 ∈ l) : ∀ (k : Nat) (o : List Int) (x : Nat), LatI n l m0 o → mu l o = x → 20 * l.length < k + x → ∃ L, latF l k o = some L ∧ LatI n l m0 L ∧ latStep l L = L := by
  intro k
  induction k with
  | zero =>
    intro o x h hx hk
    have h1 := mu_le l o
    rw [hx] at h1
    omega
  | succ k ih =>
    intro o x h hx hk
    rw [latF]
    by_cases e : latStep l o = o
    · rw [if_pos e]
      exact ⟨o, rfl, h, e⟩
    · rw [if_neg e]
      have h1 := mu_lt hy h0m h e
      rw [hx] at h1
      obtain ⟨y, hyy⟩ : ∃ y, mu l (latStep l o) = y := ⟨_, rfl⟩
      rw [hyy] at h1
      exact ih _ y (h.fold hy h0m l o (fun m hm => hm)) hyy (by omega)
/-- What latest returns: up to when a start carries. -/
theorem lat_carr {n : Int} {l : List S58} (hy : YardOK n l) {m0 : S58} (h0m : m0 ∈ l) : ∃ L, latF l 1000 (lat0 m0) = some L ∧ L.length = 20 ∧ (∀ v, 0 ≤ v → v < 20 → gc L v = -1 ∨ ∃ m ∈ l, gc L v = m.f2.f1) ∧
    ∀ v t, 0 ≤ v → v < n → 0 ≤ t → t ≤ 100000 → (carr n l v t m0 ↔ t ≤ gc L v) := by
  have hlen := hy.len
  obtain ⟨L, hL, hI, hfix⟩ := latF_ex hy h0m 1000 (lat0 m0) _ (LatI.init hy h0m) rfl (Nat.lt_of_lt_of_le (show 20 * l.length < 1000 by omega) (Nat.le_add_right _ _))
  have hn := hy.n2
  refine ⟨L, hL, hI.len, hI.val, fun v t h0 h1 ht ht2 => ⟨fun hc => ?_, fun hle => hI.supp v t h0 h1 ht hle⟩⟩
  cases Int.lt_or_le (gc L v) t with
  | inr h => exact h
  | inl hlt =>
    exfalso
    have hs := StepOK.soon hy
    obtain ⟨rk, F⟩ := run_found (fun _ => true) hy hs (sv := v) (st := t) ⟨ht, ht2⟩ ⟨h0, h1⟩
    have h0mm := hy.mv m0 h0m
    have hd := F.top hy hs (fun u => gc L u + 1) (by omega) (fun u u0 u1 => by
      rcases hI.val u u0 (by omega) with e | ⟨m, hm, e⟩
      · omega
      · have := hy.mv m hm
        omega) (fun m hm _ hok => by
      have hmm := hy.mv m hm
      have hmv := latFold_fix hy l L (fun m hm => hm) hI.len hfix m hm
      have hg := latMove_get hy hm L hI.len m.f0 (by omega) (by omega)
      rw [hmv] at hg
      simp only [soonF, decide_eq_true_eq] at hok ⊢
      by_cases hlo : m.f2.f0 ≤ gc L m.f1
      · rw [if_pos ⟨rfl, hlo⟩] at hg
        omega
      · omega) m0.f0 (by omega) (by omega)
    have := hI.start
    unfold carr at hc
    omega
end Go.Proofs.Ytfhmepdbbhcncaa.P
