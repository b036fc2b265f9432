/- Texts of this claim, joined: K, L, T20, T21, T22, T23, T24, T25, T26, T27, T28, T29, Pf27, Pf40, T30, T31, T33, T34, T35, T36, T37, T38, T39, X0, T40, XC, T41, XV. -/
import Derived.Test.YtcgdbjojjpoegaaGc5
import Derived.Deep.Slices
import Derived.ChangeShapes
import Derived.ChangeOld
import Derived.Lib.SmallJoins
namespace Go.Proofs.YtcgdbjojjpoegaaK
open Go.RowKit Go.ChangeShapes Go.WideShapes Go.Deep Go.Joins Go.Proofs.YtcgdbjojjpoegaaW.PrintWords Go.Proofs.YtcgdbjojjpoegaaW.PrintLast Go.Proofs.YtcgdbjojjpoegaaW.PrintMore

/-- What the cells of a type read as: a value of the kind d, which is ok. -/
def Opens {α : Type} (P : Program) (t : TypeId) (d : Kd α) (ok : α → Prop) : Prop :=
  ∀ (H : Type) (enc : TypeId × Value → H) (w : World) (base : Nat) (spare : Nat → Bool) (held : Bool) (fuel : Nat) (cs : List Value) (x : DataW H × List MemPlace), DataW.trod enc P w base spare held fuel t cs = some x → ∃ a, d.K w a cs ∧ ok a
theorem Opens.int {P : Program} {t : TypeId} {k : IntKind} (ht : P.underlying t = some (.int k)) : Opens P t (Kd.int k) (fun n => (Lit.int k n).wf = true) := by
  intro H enc w base spare held fuel cs x h
  obtain ⟨n, rfl, _, hw⟩ := DataW.trod_int ht h
  exact ⟨n, rfl, hw⟩
/-- A slice of what opens, from its one cell. -/
theorem opens_slice {α : Type} {P : Program} {t e : TypeId} {d : Kd α} {ok : α → Prop} (ht : P.underlying t = some (.slice e)) (hc : P.cellsOf e = d.sz) (he : Opens P e d ok)
    {H : Type} {enc : TypeId × Value → H} {w : World} {base : Nat} {spare : Nat → Bool} {held : Bool} {fuel : Nat} {cs : List Value} {x : DataW H × List MemPlace} (h : DataW.trod enc P w base spare held fuel t cs = some x) :
    ∃ (A : Option Addr) (c : Nat) (l : List α), cs = [.slice A l.length c] ∧ l.length ≤ c ∧ d.C w A l.length l ∧ ∀ a ∈ l, ok a := by
  rcases open_slice ht h with ⟨rfl, _⟩ | ⟨a, len, cap, m, n, D, Pl, rfl, hb, hl, hm, hmm, _, hx⟩
  · exact ⟨none, 0, [], rfl, Nat.le_refl _, ⟨rfl, (by simp), fun h => absurd h (by simp)⟩, (by simp)⟩
  have hle : len ≤ m := by rw [hmm]; split <;> omega
  have hex : ∀ i, i < len → ∃ y : α, ok y ∧ ∃ cs', cs'.length = d.sz ∧ d.K w y cs' ∧ ∀ j u, cs'[j]? = some u → w.cell? (a.add (i * d.sz + j)) = some u := by
    intro i hi
    obtain ⟨cs', h1, h2⟩ := hx i (by omega)
    obtain ⟨y, ky, oy⟩ := he H enc w base spare held n _ _ h2
    obtain ⟨_, hlen, hcell⟩ := World.cells?_some h1
    rw [hc] at hlen hcell
    refine ⟨y, oy, cs', hlen, ky, fun j u hu => ?_⟩
    have hj : j < d.sz := by
      have := (List.getElem?_eq_some_iff.1 hu).1
      omega
    have := hcell j hj
    rw [Go.Deep.add_add] at this
    rw [this, hu]
  have key : ∀ N, N ≤ len → ∃ l : List α, l.length = N ∧ (∀ y ∈ l, ok y) ∧ ∀ j p, l[j]? = some p → ∃ c, c.length = d.sz ∧ d.K w p c ∧ ∀ i u, c[i]? = some u → w.cell? (a.add (j * d.sz + i)) = some u := by
    intro N
    induction N with
    | zero => exact fun _ => ⟨[], rfl, (by simp), fun j p h => by simp at h⟩
    | succ N ih =>
      intro hN
      obtain ⟨l, hl1, hl2, hl3⟩ := ih (by omega)
      obtain ⟨y, oy, cs', hs, ky, hcell⟩ := hex N (by omega)
      refine ⟨l ++ [y], (by simp [hl1]), fun z hz => ?_, fun j p hj => ?_⟩
      · rcases List.mem_append.1 hz with hz | hz
        · exact hl2 z hz
        · rw [List.mem_singleton] at hz; subst hz; exact oy
      · by_cases hjl : j < l.length
        · rw [List.getElem?_append_left hjl] at hj
          exact hl3 j p hj
        · rw [List.getElem?_append_right (by omega)] at hj
          have hj0 : j - l.length = 0 := by
            have := (List.getElem?_eq_some_iff.1 hj).1
            simp at this
            omega
          rw [hj0] at hj
          simp only [List.getElem?_cons_zero, Option.some.injEq] at hj
          subst hj
          have : j = N := by omega
          subst this
          exact ⟨cs', hs, ky, hcell⟩
  obtain ⟨l, hl1, hl2, hl3⟩ := key len (Nat.le_refl _)
  subst hl1
  refine ⟨some a, cap, l, rfl, hl, ⟨rfl, ?_, fun _ => ⟨a, rfl, hl3⟩⟩, hl2⟩
  have : maxLen = 9223372036854775807 := rfl
  omega
/-- A slice that was passed. -/
theorem arg_slice {α : Type} {P : Program} {t e : TypeId} {d : Kd α} {ok : α → Prop} (ht : P.underlying t = some (.slice e)) (hc : P.cellsOf e = d.sz) (he : Opens P e d ok)
    {H : Type} {enc : TypeId × Value → H} {w : World} {r : Reach} {base b0 : Nat} {spare : Nat → Bool} {held : Bool} {v : Value} {dd : DataW H} {p : List MemPlace} (hv : Value.okWide P w r b0 t v) (h : DataW.Trod enc P w base spare held t v dd p) :
    ∃ (A : Option Addr) (c : Nat) (l : List α), v = .slice A l.length c ∧ l.length ≤ c ∧ d.C w A l.length l ∧ ∀ a ∈ l, ok a := by
  obtain ⟨A, n, c, rfl⟩ := okWide_slice ht hv
  obtain ⟨fuel, hf⟩ := h
  obtain ⟨A', c', l, hcs, hl, hC, hok⟩ := opens_slice ht hc he hf
  have : [Value.slice A n c] = [Value.slice A' l.length c'] := hcs
  simp only [List.cons.injEq, Value.slice.injEq, and_true] at this
  obtain ⟨rfl, rfl, rfl⟩ := this
  exact ⟨A, c, l, rfl, hl, hC, hok⟩
theorem arg_lt {P : Program} {H : Type} {enc : TypeId × Value → H} {w : World} {base : Nat} {spare : Nat → Bool} {held : Bool} {t : TypeId} {v : Value} {dd : DataW H} {p : List MemPlace} (h : DataW.Trod enc P w base spare held t v dd p) : ∀ x ∈ p, x.block < w.heap.size := by
  obtain ⟨m, hm⟩ := h
  exact DataW.trod_lt m _ _ _ hm
end Go.Proofs.YtcgdbjojjpoegaaK

namespace Go.Proofs.Ytcgdbjojjpoegaa.P
open Go.RowKit Go.ChangeShapes Go.WideShapes Go.Deep Go.Joins Go.Proofs.YtcgdbjojjpoegaaW.PrintWords Go.Proofs.YtcgdbjojjpoegaaW.PrintLast Go.Proofs.YtcgdbjojjpoegaaW.PrintMore Go.Proofs.YtcgdbjojjpoegaaK
set_option maxRecDepth 100000

/-- A whole number that Go's int64 holds. -/
def I64 (n : Int) : Prop := (Lit.int .i64 n).wf = true
theorem opens2 : Opens Try.prog 2 (Kd.int .i64) I64 := Opens.int Try.underlying2
end Go.Proofs.Ytcgdbjojjpoegaa.P

/- The search for a way round finds one, where amounts go round: plain law. -/
namespace Go.Proofs.Ytcgdbjojjpoegaa.P
open Go.RowKit Go.Proofs.YtcgdbjojjpoegaaW.PrintWords Go.Proofs.YtcgdbjojjpoegaaW.PrintLast Go.Proofs.YtcgdbjojjpoegaaW.PrintMore
set_option linter.unusedVariables false
set_option linter.unusedSimpArgs false

/-- What the search knows: ord are the places that were found, in their order rk. -/
structure SI (den : Int) (am : List Am) (i home : Int) (s : RSt) (ord : List Int) (rk : Int → Nat) : Prop where
  nd : ord.Nodup
  rng : ∀ q ∈ ord, 0 ≤ q ∧ q < 14
  hm : home ∈ ord
  len : s.seen.length = 14
  seen : ∀ q, 0 ≤ q → q < 14 → (s.seen.getD q.toNat 0 = 1 ↔ q ∈ ord)
  by1 : ∀ q ∈ ord, q ≠ home → ∃ x, s.by_ q = some x ∧ x.f2 = q ∧ StepOK den am i x ∧ x.f1 ∈ ord ∧ rk x.f1 < rk q
  lt : ∀ q ∈ ord, rk q < ord.length
  wt : ∀ q ∈ s.wait, q ∈ ord
theorem SI.le {den : Int} {am : List Am} {i home : Int} {s : RSt} {ord : List Int} {rk : Int → Nat} (h : SI den am i home s ord rk) : ord.length ≤ 14 := by
  have h1 : ord ⊆ (List.range 14).map (fun (j : Nat) => (j : Int)) := by
    intro q hq
    have := h.rng q hq
    rw [List.mem_map]
    exact ⟨q.toNat, by rw [List.mem_range]; omega, by omega⟩
  have := h.nd.length_le_of_subset h1
  simpa using this
theorem getD_set_z (l : List Int) (j k : Nat) (v : Int) (hj : j < l.length) : (l.set j v).getD k 0 = if k = j then v else l.getD k 0 := by
  rw [List.getD_eq_getElem?_getD, List.getElem?_set]
  by_cases e : j = k
  · subst e
    simp [hj]
  · rw [if_neg e, if_neg (fun h => e h.symm), List.getD_eq_getElem?_getD]
/-- A place is found. -/
theorem SI.add {den : Int} {am : List Am} {i home : Int} {s : RSt} {ord : List Int} {rk : Int → Nat} (h : SI den am i home s ord rk) {x : S117} (hx : StepOK den am i x) (h1 : x.f1 ∈ ord) (h2 : x.f2 ∉ ord) (hr : 0 ≤ x.f2 ∧ x.f2 < 14) (wait : List Int) (hw : ∀ q ∈ wait, q ∈ ord ∨ q = x.f2) :
    SI den am i home ⟨s.seen.set x.f2.toNat 1, fun k => if k = x.f2 then some x else s.by_ k, wait⟩ (ord ++ [x.f2]) (fun q => if q = x.f2 then ord.length else rk q) := by
  have hne : ∀ q ∈ ord, q ≠ x.f2 := fun q hq e => h2 (e ▸ hq)
  refine ⟨?_, ?_, ?_, ?_, ?_, ?_, ?_, ?_⟩
  · rw [List.nodup_append]
    refine ⟨h.nd, by simp, fun a ha b hb => ?_⟩
    rw [List.mem_singleton] at hb
    rw [hb]
    exact hne a ha
  · intro q hq
    rw [List.mem_append, List.mem_singleton] at hq
    rcases hq with hq | rfl
    · exact h.rng q hq
    · exact hr
  · rw [List.mem_append]
    exact .inl h.hm
  · simpa using h.len
  · intro q hq hq'
    have hlt : x.f2.toNat < s.seen.length := by rw [h.len]; omega
    rw [getD_set_z _ _ _ _ hlt, List.mem_append, List.mem_singleton]
    by_cases e : q = x.f2
    · rw [if_pos (by rw [e])]
      exact ⟨fun _ => .inr e, fun _ => rfl⟩
    · rw [if_neg (by omega), h.seen q hq hq']
      exact ⟨fun a => .inl a, fun a => a.resolve_right e⟩
  · intro q hq hqh
    rw [List.mem_append, List.mem_singleton] at hq
    rcases hq with hq | rfl
    · obtain ⟨y, y1, y2, y3, y4, y5⟩ := h.by1 q hq hqh
      refine ⟨y, by simp only; rw [if_neg (hne q hq)]; exact y1, y2, y3, by rw [List.mem_append]; exact .inl y4, ?_⟩
      rw [if_neg (hne _ y4), if_neg (hne q hq)]
      exact y5
    · refine ⟨x, by simp, rfl, hx, by rw [List.mem_append]; exact .inl h1, ?_⟩
      rw [if_neg (hne _ h1), if_pos rfl]
      exact h.lt _ h1
  · intro q hq
    rw [List.mem_append, List.mem_singleton] at hq
    rw [List.length_append, List.length_singleton]
    rcases hq with hq | rfl
    · rw [if_neg (hne q hq)]
      have := h.lt q hq
      omega
    · rw [if_pos rfl]
      omega
  · intro q hq
    rw [List.mem_append, List.mem_singleton]
    exact hw q hq
/-- what a turn has done after some steps -/
structure TI (den : Int) (am : List Am) (i home goal : Int) (s : RSt × Bool) (ord : List Int) (done : List S117) (w0 n0 : Nat) : Prop where
  si : ∃ rk, SI den am i home s.1 ord rk
  fnd : s.2 = true → goal ∈ ord
  not : s.2 = false → goal ∉ ord
  dn : s.2 = false → ∀ x ∈ done, x.f2 ∈ ord
  cnt : s.2 = false → s.1.wait.length + n0 = w0 + ord.length
theorem turn_fold {den : Int} {am : List Am} {i home goal at_ : Int} (hok : AmOk am) : ∀ (l : List S117) (s : RSt × Bool) (ord : List Int) (done : List S117) (w0 n0 : Nat) (base : List Int), TI den am i home goal s ord done w0 n0 → at_ ∈ ord → (∀ q ∈ base, q ∈ ord) → (∀ q ∈ base, q ∈ s.1.wait) → (∀ q ∈ ord, q ∈ base ∨ True) →
    (∀ x ∈ l, StepOK den am i x ∧ x.f1 = at_ ∧ 0 ≤ x.f2 ∧ x.f2 < 14) →
    ∃ ord', TI den am i home goal (l.foldl (bodyR goal) s) ord' (done ++ l) w0 n0 ∧ (∀ q ∈ ord, q ∈ ord') ∧ (∀ q ∈ s.1.wait, q ∈ (l.foldl (bodyR goal) s).1.wait) ∧ (∀ q ∈ ord', q ∈ ord ∨ q ∈ (l.foldl (bodyR goal) s).1.wait ∨ q = goal)
  | [], s, ord, done, w0, n0, base, h, _, _, _, _, _ => ⟨ord, by rw [List.append_nil]; exact h, fun q hq => hq, fun q hq => hq, fun q hq => .inl hq⟩
  | x :: l, s, ord, done, w0, n0, base, h, ha, hb1, hb2, hb3, hl => by
    obtain ⟨hx, hx1, hx2⟩ := hl x (by simp)
    have hl' : ∀ y ∈ l, StepOK den am i y ∧ y.f1 = at_ ∧ 0 ≤ y.f2 ∧ y.f2 < 14 := fun y hy => hl y (by simp [hy])
    rw [List.foldl_cons]
    obtain ⟨rk, hsi⟩ := h.si
    cases hs : s.2 with
    | true =>
      have e : bodyR goal s x = s := by unfold bodyR; rw [if_pos hs]
      rw [e]
      have h' : TI den am i home goal s ord (done ++ [x]) w0 n0 := ⟨h.si, h.fnd, h.not, (fun hf => by rw [hs] at hf; cases hf), h.cnt⟩
      obtain ⟨o, h1, h2⟩ := turn_fold hok l s ord (done ++ [x]) w0 n0 base h' ha hb1 hb2 hb3 hl'
      exact ⟨o, by rw [List.append_assoc] at h1; exact h1, h2⟩
    | false =>
      have e0 : s = (s.1, false) := by rw [← hs]
      by_cases hsn : s.1.seen.getD x.f2.toNat 0 = 1
      · have e : bodyR goal s x = s := by
          rw [e0]
          exact bodyR_seen hsn
        rw [e]
        have hin := (hsi.seen _ hx2.1 hx2.2).1 hsn
        have h' : TI den am i home goal s ord (done ++ [x]) w0 n0 := ⟨h.si, h.fnd, h.not, (fun hf y hy => by
          rw [List.mem_append, List.mem_singleton] at hy
          rcases hy with hy | rfl
          · exact h.dn hf y hy
          · exact hin), h.cnt⟩
        obtain ⟨o, h1, h2⟩ := turn_fold hok l s ord (done ++ [x]) w0 n0 base h' ha hb1 hb2 hb3 hl'
        exact ⟨o, by rw [List.append_assoc] at h1; exact h1, h2⟩
      · have hnin : x.f2 ∉ ord := fun hin => hsn ((hsi.seen _ hx2.1 hx2.2).2 hin)
        have hng := h.not hs
        have hcnt := h.cnt hs
        have hf1 : x.f1 ∈ ord := by rw [hx1]; exact ha
        by_cases hg : x.f2 = goal
        · have e : bodyR goal s x = (⟨s.1.seen.set x.f2.toNat 1, fun k => if k = x.f2 then some x else s.1.by_ k, s.1.wait⟩, true) := by
            rw [e0, bodyR_new hsn, if_pos hg]
          rw [e]
          have h' : TI den am i home goal (⟨s.1.seen.set x.f2.toNat 1, fun k => if k = x.f2 then some x else s.1.by_ k, s.1.wait⟩, true) (ord ++ [x.f2]) (done ++ [x]) w0 n0 :=
            ⟨⟨_, hsi.add hx hf1 hnin hx2 s.1.wait (fun q hq => .inl (hsi.wt q hq))⟩, (fun _ => by rw [hg]; simp), (fun hf => by cases hf), (fun hf => by cases hf), (fun hf => by cases hf)⟩
          obtain ⟨o, h1, h2, h3, h4⟩ := turn_fold hok l _ (ord ++ [x.f2]) (done ++ [x]) w0 n0 [] h' (by simp [ha]) (by simp) (by simp) (fun _ _ => .inr trivial) hl'
          refine ⟨o, by rw [List.append_assoc] at h1; exact h1, fun q hq => h2 q (by simp [hq]), h3, fun q hq => ?_⟩
          rcases h4 q hq with h5 | h5
          · rw [List.mem_append, List.mem_singleton] at h5
            rcases h5 with h5 | h5
            · exact .inl h5
            · exact .inr (.inr (h5.trans hg))
          · exact .inr h5
        · have e : bodyR goal s x = (⟨s.1.seen.set x.f2.toNat 1, fun k => if k = x.f2 then some x else s.1.by_ k, s.1.wait ++ [x.f2]⟩, false) := by
            rw [e0, bodyR_new hsn, if_neg hg]
          rw [e]
          have h' : TI den am i home goal (⟨s.1.seen.set x.f2.toNat 1, fun k => if k = x.f2 then some x else s.1.by_ k, s.1.wait ++ [x.f2]⟩, false) (ord ++ [x.f2]) (done ++ [x]) w0 n0 :=
            ⟨⟨_, hsi.add hx hf1 hnin hx2 (s.1.wait ++ [x.f2]) (fun q hq => by
              rw [List.mem_append, List.mem_singleton] at hq
              exact hq.imp (hsi.wt q) id)⟩, (fun hf => by cases hf), (fun _ hgo => by
              rw [List.mem_append, List.mem_singleton] at hgo
              rcases hgo with hgo | hgo
              · exact hng hgo
              · exact hg hgo.symm), (fun _ y hy => by
              rw [List.mem_append, List.mem_singleton] at hy
              rw [List.mem_append, List.mem_singleton]
              rcases hy with hy | rfl
              · exact .inl (h.dn hs y hy)
              · exact .inr rfl), (fun _ => by simp only [List.length_append, List.length_singleton]; omega)⟩
          obtain ⟨o, h1, h2, h3, h4⟩ := turn_fold hok l _ (ord ++ [x.f2]) (done ++ [x]) w0 n0 [] h' (by simp [ha]) (by simp) (by simp) (fun _ _ => .inr trivial) hl'
          refine ⟨o, by rw [List.append_assoc] at h1; exact h1, fun q hq => h2 q (by simp [hq]), fun q hq => h3 q (by simp [hq]), fun q hq => ?_⟩
          rcases h4 q hq with h5 | h5
          · rw [List.mem_append, List.mem_singleton] at h5
            rcases h5 with h5 | h5
            · exact .inl h5
            · exact .inr (.inl (h3 q (by simp [h5])))
          · exact .inr h5
theorem stepOf_rng {am : List Am} (hok : AmOk am) {k : Nat} (hk : k < am.length) (from_ : Int) : 0 ≤ (stepOf from_ k (amAt am k)).f2 ∧ (stepOf from_ k (amAt am k)).f2 < 14 := by
  have h := hok _ (List.getElem_mem hk)
  rw [← amAt_nat am k hk] at h
  unfold stepOf
  split
  · exact h.1
  · exact h.2
theorem stepsTo_mem {den from_ but : Int} {am : List Am} : ∀ (n : Nat) (k : Nat), k < n → isStep den from_ but k (amAt am k) = true → stepOf from_ k (amAt am k) ∈ stepsTo den from_ but am n
  | 0, k, hk, _ => by omega
  | n + 1, k, hk, h => by
    rw [stepsTo, List.mem_append]
    rcases Nat.lt_or_ge k n with h1 | h1
    · exact .inl (stepsTo_mem n k h1 h)
    · have : k = n := by omega
      subst this
      right
      rw [if_pos h]
      simp
/-- all that can be reached by amounts that are not whole is found -/
def Closed (den : Int) (am : List Am) (i : Int) (ord wait : List Int) : Prop :=
  ∀ q ∈ ord, q ∉ wait → ∀ k, k < am.length → isStep den q i k (amAt am k) = true → (stepOf q k (amAt am k)).f2 ∈ ord
theorem search_ok {den : Int} {am : List Am} {i home goal : Int} (hok : AmOk am) : ∀ (n fuel : Nat) (s : RSt) (ord : List Int) (rk : Int → Nat), SI den am i home s ord rk → goal ∉ ord → Closed den am i ord s.wait → s.wait.length + 14 ≤ n + ord.length → n ≤ fuel →
    ∃ s' ord' rk', searchR den am i goal fuel s = some s' ∧ SI den am i home s' ord' rk' ∧ (goal ∈ ord' ∨ (goal ∉ ord' ∧ Closed den am i ord' []))
  | n, fuel, s, ord, rk, h, hg, hc, hn, hf => by
    by_cases hw : s.wait = []
    · refine ⟨s, ord, rk, ?_, h, .inr ⟨hg, by rw [hw] at hc; exact hc⟩⟩
      cases fuel with
      | zero => rw [searchR, if_pos hw]
      | succ f => rw [searchR, if_pos hw]
    · have hle := h.le
      have hwl : 0 < s.wait.length := List.length_pos_iff.2 hw
      cases fuel with
      | zero => omega
      | succ f =>
        have hsplit : s.wait = s.wait.take (s.wait.length - 1) ++ [lastI s.wait] := by
          have h1 : s.wait.length - 1 < s.wait.length := by omega
          have h2 : lastI s.wait = s.wait[s.wait.length - 1] := by
            unfold lastI
            rw [List.getD_eq_getElem?_getD, List.getElem?_eq_getElem h1]
            rfl
          rw [h2, ← List.take_succ_eq_append_getElem h1, show s.wait.length - 1 + 1 = s.wait.length by omega, List.take_length]
        have hat : lastI s.wait ∈ ord := h.wt _ (by
          have h9 : lastI s.wait ∈ s.wait.take (s.wait.length - 1) ++ [lastI s.wait] := by simp
          rwa [← hsplit] at h9)
        have hsi0 : SI den am i home ⟨s.seen, s.by_, s.wait.take (s.wait.length - 1)⟩ ord rk := ⟨h.nd, h.rng, h.hm, h.len, h.seen, h.by1, h.lt, fun q hq => h.wt q (List.mem_of_mem_take hq)⟩
        have hti : TI den am i home goal (⟨s.seen, s.by_, s.wait.take (s.wait.length - 1)⟩, false) ord [] (s.wait.length - 1) ord.length :=
          ⟨⟨rk, hsi0⟩, (fun hh => by cases hh), (fun _ => hg), (fun _ x hx => by cases hx), (fun _ => by simp only [List.length_take]; omega)⟩
        have hsteps : ∀ x ∈ stepsTo den (lastI s.wait) i am am.length, StepOK den am i x ∧ x.f1 = lastI s.wait ∧ 0 ≤ x.f2 ∧ x.f2 < 14 := by
          intro x hx
          obtain ⟨h1, h2⟩ := stepsTo_ok am.length (Nat.le_refl _) x hx
          refine ⟨h1, h2, ?_⟩
          obtain ⟨k, hk, e, _⟩ := h1
          rw [e]
          exact stepOf_rng hok hk _
        obtain ⟨ord', ht, hsub, hwt, hnew⟩ := turn_fold hok _ _ ord [] (s.wait.length - 1) ord.length [] hti hat (by simp) (by simp) (fun _ _ => .inr trivial) hsteps
        rw [searchR, if_neg hw]
        show ∃ s' ord' rk', (if (turnR den am i goal s).2 = true then some (turnR den am i goal s).1 else searchR den am i goal f (turnR den am i goal s).1) = some s' ∧ _
        have hturn : turnR den am i goal s = (stepsTo den (lastI s.wait) i am am.length).foldl (bodyR goal) (⟨s.seen, s.by_, s.wait.take (s.wait.length - 1)⟩, false) := rfl
        rw [← hturn] at ht hwt hnew
        obtain ⟨rk', hsi'⟩ := ht.si
        cases hfound : (turnR den am i goal s).2 with
        | true =>
          rw [if_pos rfl]
          exact ⟨_, ord', rk', rfl, hsi', .inl (ht.fnd hfound)⟩
        | false =>
          rw [if_neg (by decide)]
          have hcnt := ht.cnt hfound
          have hle' := hsi'.le
          refine search_ok hok (n - 1) f _ ord' rk' hsi' (ht.not hfound) ?_ (by omega) (by omega)
          intro q hq hqw k hk hs
          rcases hnew q hq with h1 | h1 | h1
          · by_cases hqa : q = lastI s.wait
            · subst hqa
              refine ht.dn hfound _ ?_
              rw [List.nil_append]
              exact stepsTo_mem am.length k hk hs
            · by_cases hqt : q ∈ s.wait.take (s.wait.length - 1)
              · exact absurd (hwt q hqt) hqw
              · refine hsub _ (hc q h1 ?_ k hk hs)
                rw [hsplit, List.mem_append, List.mem_singleton]
                rintro (h2 | h2)
                · exact hqt h2
                · exact hqa h2
          · exact absurd h1 hqw
          · rw [h1] at hq
            exact absurd hq (ht.not hfound)
termination_by n _ _ _ _ => n
decreasing_by omega
end Go.Proofs.Ytcgdbjojjpoegaa.P

/- A way round of an amount that is not whole is found, and what it is: plain law. -/
namespace Go.Proofs.Ytcgdbjojjpoegaa.P
open Go.RowKit Go.Proofs.YtcgdbjojjpoegaaW.PrintWords Go.Proofs.YtcgdbjojjpoegaaW.PrintLast Go.Proofs.YtcgdbjojjpoegaaW.PrintMore
set_option linter.unusedVariables false
set_option linter.unusedSimpArgs false

/-- how much goes out of some places, less what comes in -/
def outA (S : Int → Bool) (a : Am) : Int := (if S a.fr = true then a.pa else 0) - (if S a.tt = true then a.pa else 0)
def outS (S : Int → Bool) (am : List Am) : Int := (am.map (outA S)).sum
/-- As much goes out of any places as comes in. -/
def Cons (am : List Am) : Prop := ∀ S : Int → Bool, outS S am = 0
def NoLoop (am : List Am) : Prop := ∀ k : Nat, k < am.length → (amAt am k).fr ≠ (amAt am k).tt
theorem dvd_all {d : Int} {f : Am → Int} : ∀ (l : List Am), (∀ k (hk : k < l.length), d ∣ f l[k]) → d ∣ (l.map f).sum
  | [], _ => by simp
  | a :: l, h => by
    rw [List.map_cons, List.sum_cons]
    have h0 := h 0 (by simp)
    simp only [List.getElem_cons_zero] at h0
    refine Int.dvd_add h0 (dvd_all l fun k hk => ?_)
    have := h (k + 1) (by simpa using hk)
    simpa using this
theorem dvd_split {d : Int} {f : Am → Int} : ∀ (l : List Am) (i : Nat) (hi : i < l.length), (∀ k (hk : k < l.length), k ≠ i → d ∣ f l[k]) → d ∣ (l.map f).sum → d ∣ f l[i]
  | [], i, hi, _, _ => by simp at hi
  | a :: l, 0, hi, h, hs => by
    rw [List.map_cons, List.sum_cons] at hs
    have h1 : d ∣ (l.map f).sum := dvd_all l fun k hk => by
      have := h (k + 1) (by simpa using hk) (by omega)
      simpa using this
    simp only [List.getElem_cons_zero]
    exact (Int.dvd_iff_dvd_of_dvd_add hs).2 h1
  | a :: l, i + 1, hi, h, hs => by
    rw [List.map_cons, List.sum_cons] at hs
    have h0 := h 0 (by simp) (by omega)
    simp only [List.getElem_cons_zero] at h0
    have h1 : d ∣ (l.map f).sum := (Int.dvd_iff_dvd_of_dvd_add hs).1 h0
    simp only [List.getElem_cons_succ]
    refine dvd_split l i (by simpa using hi) (fun k hk hki => ?_) h1
    have := h (k + 1) (by simpa using hk) (by omega)
    simpa using this
theorem brk_dvd {den : Int} {a : Am} : brk den a = false ↔ den ∣ a.pa := by
  unfold brk
  rw [bne_eq_false_iff_eq]
  exact ⟨Int.dvd_of_tmod_eq_zero, Int.tmod_eq_zero_of_dvd⟩
theorem brk_true {den : Int} {a : Am} : brk den a = true ↔ ¬ den ∣ a.pa := by
  rw [← brk_dvd]
  simp
/-- Where nothing is lost the search can't stop without its goal. -/
theorem no_stop {den : Int} {am : List Am} {i : Nat} (hi : i < am.length) (hc : Cons am) (hb : brk den (amAt am i) = true) {ord : List Int} (hh : (amAt am i).tt ∈ ord) (hg : (amAt am i).fr ∉ ord) (hcl : Closed den am (i : Int) ord []) : False := by
  have h1 := hc fun q => decide (q ∈ ord)
  have h2 : den ∣ outS (fun q => decide (q ∈ ord)) am := by rw [h1]; exact Int.dvd_zero _
  have h3 := dvd_split (d := den) (f := outA fun q => decide (q ∈ ord)) am i hi (fun k hk hki => ?_) h2
  · rw [amAt_nat am i hi] at hb hh hg
    unfold outA at h3
    rw [if_neg (by simpa using hg), if_pos (by simpa using hh)] at h3
    rw [brk_true] at hb
    refine hb ?_
    have h4 := Int.dvd_neg.2 h3
    rwa [show -(0 - am[i].pa) = am[i].pa by omega] at h4
  · unfold outA
    cases hbk : brk den am[k] with
    | false =>
      have := brk_dvd.1 hbk
      split <;> split <;> simp [this, Int.dvd_neg]
    | true =>
      have e := amAt_nat am k hk
      have hiff : am[k].fr ∈ ord ↔ am[k].tt ∈ ord := by
        constructor
        · intro hf
          have h5 := hcl am[k].fr hf (by simp) k hk (by
            unfold isStep stepOf
            rw [e, hbk]
            split
            · rename_i h6
              simp [h6]
              omega
            · simp
              omega)
          rw [e] at h5
          unfold stepOf at h5
          split at h5
          · rename_i h6
            rw [h6]
            exact hf
          · exact h5
        · intro hf
          have h5 := hcl am[k].tt hf (by simp) k hk (by
            unfold isStep stepOf
            rw [e, hbk, if_pos rfl]
            simp
            omega)
          rw [e] at h5
          unfold stepOf at h5
          rw [if_pos rfl] at h5
          exact h5
      by_cases hf : am[k].fr ∈ ord
      · rw [if_pos (by simpa using hf), if_pos (by simpa using hiff.1 hf)]
        rw [Int.sub_self]
        exact Int.dvd_zero _
      · rw [if_neg (by simpa using hf), if_neg (by simpa using fun h => hf (hiff.2 h))]
        simp
/-- A way back from a place to the one where the search began. -/
def Path (home : Int) : List S117 → Int → Prop
  | [], at_ => at_ = home
  | s :: r, at_ => s.f2 = at_ ∧ Path home r s.f1
theorem backR_path {den : Int} {am : List Am} {i home : Int} {s : RSt} {ord : List Int} {rk : Int → Nat} (h : SI den am i home s ord rk) : ∀ (fuel : Nat) (at_ : Int) (by_ : Int → Option S117) (out : List S117), at_ ∈ ord → rk at_ ≤ fuel → (∀ q ∈ ord, rk q ≤ rk at_ → by_ q = s.by_ q) →
    ∃ r, backR home fuel by_ at_ out = some (out ++ r) ∧ Path home r at_ ∧ (∀ x ∈ r, StepOK den am i x ∧ rk x.f1 < rk x.f2 ∧ rk x.f2 ≤ rk at_) ∧ r.Pairwise (fun x y => rk y.f2 < rk x.f2) ∧ (at_ ≠ home → r ≠ [])
  | fuel, at_, by_, out, ha, hf, hb => by
    by_cases he : at_ = home
    · refine ⟨[], ?_, he, by simp, List.Pairwise.nil, fun hn => absurd he hn⟩
      cases fuel with
      | zero => rw [backR, if_pos he, List.append_nil]
      | succ f => rw [backR, if_pos he, List.append_nil]
    · obtain ⟨x, x1, x2, x3, x4, x5⟩ := h.by1 at_ ha he
      cases fuel with
      | zero => omega
      | succ f =>
        have hbx : by_ at_ = some x := by rw [hb at_ ha (Nat.le_refl _), x1]
        have hz : ¬ x = z117 := by
          intro e
          rw [← x2, e] at x5
          exact Nat.lt_irrefl _ x5
        rw [backR, if_neg he, hbx]
        simp only [Option.getD_some]
        rw [if_neg hz]
        obtain ⟨r, r1, r2, r3, r4, _⟩ := backR_path h f x.f1 (fun q => if q = at_ then none else by_ q) (out ++ [x]) x4 (by omega) (fun q hq hqr => by
          have hne : q ≠ at_ := by
            intro e
            rw [e] at hqr
            omega
          show (if q = at_ then none else by_ q) = _
          rw [if_neg hne]
          exact hb q hq (by omega))
        refine ⟨x :: r, by rw [r1, List.append_assoc]; rfl, ⟨x2, r2⟩, fun y hy => ?_, ?_, fun _ => by simp⟩
        · rw [List.mem_cons] at hy
          rcases hy with rfl | hy
          · exact ⟨x3, by rw [x2]; exact x5, by rw [x2]; exact Nat.le_refl _⟩
          · obtain ⟨y1, y2, y3⟩ := r3 y hy
            exact ⟨y1, y2, by omega⟩
        · rw [List.pairwise_cons]
          refine ⟨fun y hy => ?_, r4⟩
          have := (r3 y hy).2.2
          rw [x2]
          omega
theorem StepOK.ends {den : Int} {am : List Am} {i : Int} {x : S117} (h : StepOK den am i x) : ∃ k : Nat, k < am.length ∧ x.f0 = (k : Int) ∧ (k : Int) ≠ i ∧ brk den (amAt am k) = true ∧ ((x.f1 = (amAt am k).fr ∧ x.f2 = (amAt am k).tt) ∨ (x.f1 = (amAt am k).tt ∧ x.f2 = (amAt am k).fr)) := by
  obtain ⟨k, hk, e, hs⟩ := h
  unfold isStep at hs
  simp only [Bool.and_eq_true, Bool.not_eq_true', beq_eq_false_iff_ne, ne_eq, beq_iff_eq] at hs
  refine ⟨k, hk, ?_, hs.1, hs.2.2, ?_⟩
  · rw [e]
    unfold stepOf
    split <;> rfl
  · rw [e]
    unfold stepOf
    split
    · exact .inr ⟨rfl, rfl⟩
    · exact .inl ⟨rfl, rfl⟩
/-- The way round that is found: it leads from the end of the amount to its beginning, by amounts that are not whole, each just once. -/
structure Way (den : Int) (am : List Am) (i : Nat) (r : List S117) : Prop where
  path : Path (amAt am i).tt r (amAt am i).fr
  ok : ∀ x ∈ r, StepOK den am i x
  ne : r ≠ []
  nd : (r.map (·.f0)).Nodup
theorem round_way {den : Int} {am : List Am} {i : Nat} (hi : i < am.length) (hok : AmOk am) (hc : Cons am) (hl : NoLoop am) (hb : brk den (amAt am i) = true) : ∃ r, roundR den am i = some r ∧ Way den am i r := by
  have hpl := hok _ (List.getElem_mem hi)
  rw [← amAt_nat am i hi] at hpl
  have hne := hl i hi
  generalize eh : (amAt am i).tt = home at *
  generalize eg : (amAt am i).fr = goal at *
  have hs0 : SI den am (i : Int) home (startR home) [home] (fun _ => 0) := by
    refine ⟨by simp, ?_, by simp, by simp [startR], ?_, ?_, by simp, by simp [startR]⟩
    · intro q hq
      rw [List.mem_singleton] at hq
      rw [hq]
      exact hpl.2
    · intro q hq hq'
      unfold startR
      simp only
      rw [getD_set_z _ _ _ _ (by rw [List.length_replicate]; omega), List.mem_singleton]
      by_cases e : q = home
      · rw [if_pos (by rw [e])]
        exact ⟨fun _ => e, fun _ => rfl⟩
      · rw [if_neg (by omega), rep0]
        exact ⟨fun a => absurd a (by decide), fun a => absurd a e⟩
    · intro q hq hqh
      rw [List.mem_singleton] at hq
      exact absurd hq hqh
  obtain ⟨s', ord', rk', h1, h2, h3⟩ := search_ok hok 14 20 (startR home) [home] _ hs0 (by rw [List.mem_singleton]; exact hne) (fun q hq hqw => by
    exact absurd hq (by simpa [startR] using hqw)) (by simp [startR]) (by omega)
  have hgo : goal ∈ ord' := by
    rcases h3 with h3 | ⟨h3, h4⟩
    · exact h3
    · exact absurd (no_stop hi hc hb (by rw [eh]; exact h2.hm) (by rw [eg]; exact h3) h4) id
  have hrk := h2.lt goal hgo
  have hle := h2.le
  obtain ⟨r, r1, r2, r3, r4, r5⟩ := backR_path h2 20 goal s'.by_ [] hgo (by omega) (fun q _ _ => rfl)
  refine ⟨r, ?_, ⟨by rw [eh, eg]; exact r2, fun x hx => (r3 x hx).1, r5 hne, ?_⟩⟩
  · unfold roundR
    rw [eh, eg, h1, Option.bind_some, r1, List.nil_append]
  · rw [List.nodup_iff_pairwise_ne, List.pairwise_map]
    refine List.Pairwise.imp_of_mem ?_ r4
    intro x y hx hy hxy e
    obtain ⟨x1, x2, _⟩ := r3 x hx
    obtain ⟨y1, y2, _⟩ := r3 y hy
    obtain ⟨k, _, k1, _, _, k2⟩ := x1.ends
    obtain ⟨k', _, k1', _, _, k2'⟩ := y1.ends
    have : k = k' := by omega
    subst this
    rcases k2 with ⟨a, b⟩ | ⟨a, b⟩ <;> rcases k2' with ⟨c, d⟩ | ⟨c, d⟩ <;> rw [a, b] at x2 <;> rw [c, d] at y2 <;> rw [b, d] at hxy <;> omega
end Go.Proofs.Ytcgdbjojjpoegaa.P

/- What a push does, and that settle and force end: plain law. -/
namespace Go.Proofs.Ytcgdbjojjpoegaa.P
open Go.RowKit Go.Proofs.YtcgdbjojjpoegaaW.PrintWords Go.Proofs.YtcgdbjojjpoegaaW.PrintLast Go.Proofs.YtcgdbjojjpoegaaW.PrintMore
set_option linter.unusedVariables false
set_option linter.unusedSimpArgs false

theorem wrap_id (x : Int) (h0 : -9223372036854775808 ≤ x) (h1 : x ≤ 9223372036854775807) : wrap64 x = x := by
  unfold wrap64
  omega
def indS (S : Int → Bool) (p : Int) : Int := if S p = true then 1 else 0
theorem outA_eq (S : Int → Bool) (a : Am) : outA S a = a.pa * (indS S a.fr - indS S a.tt) := by
  unfold outA indS
  split <;> split <;> simp
theorem sum_set (f : Am → Int) : ∀ (am : List Am) (k : Nat) (a : Am) (hk : k < am.length), ((am.set k a).map f).sum = (am.map f).sum + f a - f am[k]
  | [], k, a, hk => by simp at hk
  | b :: am, 0, a, hk => by
    simp only [List.set_cons_zero, List.map_cons, List.sum_cons, List.getElem_cons_zero]
    omega
  | b :: am, k + 1, a, hk => by
    have := sum_set f am k a (by simpa using hk)
    simp only [List.set_cons_succ, List.map_cons, List.sum_cons, List.getElem_cons_succ]
    omega
/-- a step by an amount, either way -/
structure StepA (am : List Am) (s : S117) (k : Nat) : Prop where
  lt : k < am.length
  f0 : s.f0 = (k : Int)
  ends : (s.f1 = (amAt am k).fr ∧ s.f2 = (amAt am k).tt) ∨ (s.f1 = (amAt am k).tt ∧ s.f2 = (amAt am k).fr)
  ne : (amAt am k).fr ≠ (amAt am k).tt
  p0 : 0 ≤ (amAt am k).pa
  p1 : (amAt am k).pa ≤ 1000000000
def wayS (S : Int → Bool) (w : List S117) : Int := (w.map fun s => indS S s.f1 - indS S s.f2).sum
theorem pushStep_at {more : Bool} {by_ : Int} {am : List Am} {s : S117} {k : Nat} (h : StepA am s k) (hb : 0 ≤ by_ ∧ by_ ≤ 1000) (j : Nat) :
    amAt (pushStep more by_ am s) (j : Int) = if j = k then ⟨(amAt am k).fr, (amAt am k).tt, if growsF am more s = true then (amAt am k).pa + by_ else (amAt am k).pa - by_⟩ else amAt am (j : Int) := by
  have h0 := h.p0
  have h1 := h.p1
  unfold pushStep
  rw [h.f0, Int.toNat_natCast, amAt_set am k j _ h.lt, wrap_id _ (by omega) (by omega), wrap_id _ (by omega) (by omega)]
theorem pushStep_out {more : Bool} {by_ : Int} {am : List Am} {s : S117} {k : Nat} (h : StepA am s k) (hb : 0 ≤ by_ ∧ by_ ≤ 1000) (S : Int → Bool) :
    outS S (pushStep more by_ am s) = outS S am + (if more = true then by_ else -by_) * (indS S s.f1 - indS S s.f2) := by
  have h0 := h.p0
  have h1 := h.p1
  have hne := h.ne
  have hk := h.lt
  unfold outS pushStep
  rw [h.f0, Int.toNat_natCast, wrap_id _ (by omega) (by omega), wrap_id _ (by omega) (by omega), sum_set _ am k _ hk, outA_eq, outA_eq, ← amAt_nat am k hk]
  simp only
  have hg : growsF am more s = (((amAt am k).fr == s.f1) == more) := by unfold growsF; rw [h.f0]
  rw [hg]
  have hends := h.ends
  clear hg
  generalize (amAt am k).pa = p at *
  generalize (amAt am k).fr = f at *
  generalize (amAt am k).tt = t at *
  rcases hends with ⟨e1, e2⟩ | ⟨e1, e2⟩
  · rw [e1, e2]
    generalize indS S f - indS S t = d
    cases more
    · simp
      rw [Int.sub_mul, Int.neg_mul]
      omega
    · simp
      rw [Int.add_mul]
      omega
  · rw [e1, e2]
    have hft : (f == t) = false := beq_eq_false_iff_ne.mpr hne
    rw [hft, show indS S t - indS S f = -(indS S f - indS S t) by omega]
    generalize indS S f - indS S t = d
    cases more
    · simp
      rw [Int.add_mul, Int.neg_mul, Int.mul_neg]
      omega
    · simp
      rw [Int.sub_mul, Int.mul_neg]
      omega
theorem StepA.step {more : Bool} {by_ : Int} {am : List Am} {s x : S117} {k j : Nat} (h : StepA am s k) (hx : StepA am x j) (hkj : k ≠ j) (hb : 0 ≤ by_ ∧ by_ ≤ 1000) : StepA (pushStep more by_ am s) x j := by
  have e := pushStep_at (more := more) h hb j
  rw [if_neg (fun h => hkj h.symm)] at e
  refine ⟨by rw [(pushStep_alike k h.lt h.f0).1]; exact hx.lt, hx.f0, ?_, ?_, ?_, ?_⟩ <;> rw [e]
  · exact hx.ends
  · exact hx.ne
  · exact hx.p0
  · exact hx.p1
/-- What a push makes of the amounts. -/
theorem fold_push {more : Bool} {by_ : Int} (hb : 0 ≤ by_ ∧ by_ ≤ 1000) : ∀ (w : List S117) (am : List Am), (∀ s ∈ w, ∃ k, StepA am s k) → (w.map (·.f0)).Nodup →
    Alike am (w.foldl (pushStep more by_) am) ∧ (∀ j : Nat, (∀ s ∈ w, s.f0 ≠ (j : Int)) → amAt (w.foldl (pushStep more by_) am) (j : Int) = amAt am (j : Int)) ∧
    (∀ s ∈ w, (amAt (w.foldl (pushStep more by_) am) s.f0).pa = if growsF am more s = true then (amAt am s.f0).pa + by_ else (amAt am s.f0).pa - by_) ∧
    ∀ S, outS S (w.foldl (pushStep more by_) am) = outS S am + (if more = true then by_ else -by_) * wayS S w
  | [], am, _, _ => ⟨Alike.refl am, fun j _ => rfl, by simp, fun S => by simp [wayS]⟩
  | s :: w, am, h, hn => by
    obtain ⟨k, hk⟩ := h s (by simp)
    rw [List.map_cons, List.nodup_cons] at hn
    have hw : ∀ x ∈ w, ∃ j, StepA am x j ∧ k ≠ j := by
      intro x hx
      obtain ⟨j, hj⟩ := h x (by simp [hx])
      refine ⟨j, hj, fun e => hn.1 ?_⟩
      rw [List.mem_map]
      exact ⟨x, hx, by rw [hj.f0, hk.f0, e]⟩
    obtain ⟨h1, h2, h3, h4⟩ := fold_push hb w (pushStep more by_ am s) (fun x hx => by
      obtain ⟨j, hj, hkj⟩ := hw x hx
      exact ⟨j, hk.step hj hkj hb⟩) hn.2
    have hal := pushStep_alike (more := more) (by_ := by_) k hk.lt hk.f0
    rw [List.foldl_cons]
    refine ⟨hal.trans h1, fun j hj => ?_, fun x hx => ?_, fun S => ?_⟩
    · rw [h2 j (fun x hx => hj x (by simp [hx])), pushStep_at hk hb j, if_neg]
      intro e
      exact hj s (by simp) (by rw [hk.f0, e])
    · rw [List.mem_cons] at hx
      rcases hx with rfl | hx
      · rw [hk.f0, h2 k (fun y hy e => hn.1 (List.mem_map.2 ⟨y, hy, by rw [e, hk.f0]⟩)), pushStep_at hk hb k, if_pos rfl]
      · obtain ⟨j, hj, hkj⟩ := hw x hx
        have e := pushStep_at (more := more) hk hb j
        rw [if_neg (fun e => hkj e.symm)] at e
        rw [h3 x hx, growsF_alike hal j hj.lt hj.f0, hj.f0, e]
    · rw [h4 S, pushStep_out hk hb S]
      unfold wayS
      rw [List.map_cons, List.sum_cons, Int.mul_add]
      omega
theorem path_sum (S : Int → Bool) {home : Int} : ∀ (r : List S117) (at_ : Int), Path home r at_ → wayS S r = indS S home - indS S at_
  | [], at_, h => by
    have : at_ = home := h
    rw [this]
    simp [wayS]
  | s :: r, at_, h => by
    have h1 := path_sum S r s.f1 h.2
    have h2 := h.1
    unfold wayS at h1 ⊢
    rw [List.map_cons, List.sum_cons, h1, h2]
    omega
/-- an amount rounded down, and up -/
def flo (den a : Int) : Int := den * (a / den)
def cei (den a : Int) : Int := if den ∣ a then a else den * (a / den) + den
/-- b lies between a rounded down and up -/
def Near (den a b : Int) : Prop := flo den a ≤ b ∧ b ≤ cei den a
theorem flo_le {den a : Int} (h : 1 ≤ den) : flo den a ≤ a ∧ a < flo den a + den := by
  unfold flo
  have h1 := Int.mul_ediv_add_emod a den
  have h2 := Int.emod_nonneg a (show den ≠ 0 by omega)
  have h3 := Int.emod_lt_of_pos a (show 0 < den by omega)
  omega
theorem flo_dvd {den a : Int} (h : den ∣ a) : flo den a = a := Int.mul_ediv_cancel' h
theorem cei_le {den a : Int} (h : 1 ≤ den) : a ≤ cei den a ∧ cei den a < a + den ∨ a = cei den a := by
  unfold cei
  have h1 := flo_le (a := a) h
  unfold flo at h1
  split
  · exact .inr rfl
  · rename_i hd
    left
    have h2 : den * (a / den) ≠ a := fun e => hd (by rw [← e]; exact Int.dvd_mul_right _ _)
    omega
theorem Near.refl {den a : Int} (h : 1 ≤ den) : Near den a a := by
  have h1 := flo_le (a := a) h
  have h2 := cei_le (a := a) h
  exact ⟨h1.1, by omega⟩
theorem flo_mono {den q b : Int} (h : 1 ≤ den) (hq : den * q ≤ b) : den * q ≤ flo den b := by
  unfold flo
  have : q ≤ b / den := by
    rw [Int.le_ediv_iff_mul_le (by omega), Int.mul_comm]
    exact hq
  exact Int.mul_le_mul_of_nonneg_left this (by omega)
theorem cei_mono {den q b : Int} (h : 1 ≤ den) (hq : b ≤ den * q) : cei den b ≤ den * q := by
  unfold cei
  split
  · exact hq
  · rename_i hd
    have h1 : b < den * q := by
      rcases Int.lt_or_eq_of_le hq with h2 | h2
      · exact h2
      · exact absurd ⟨q, h2⟩ hd
    have h2 : b / den < q := by
      rw [Int.ediv_lt_iff_lt_mul (by omega), Int.mul_comm]
      exact h1
    have h3 := Int.mul_le_mul_of_nonneg_left (show b / den + 1 ≤ q by omega) (show 0 ≤ den by omega)
    rw [Int.mul_add, Int.mul_one] at h3
    exact h3
theorem cei_mul (den a : Int) : ∃ q, cei den a = den * q := by
  unfold cei
  split
  · rename_i h
    obtain ⟨q, e⟩ := h
    exact ⟨q, e⟩
  · exact ⟨a / den + 1, by rw [Int.mul_add, Int.mul_one]⟩
theorem Near.trans {den a b c : Int} (h : 1 ≤ den) (h1 : Near den a b) (h2 : Near den b c) : Near den a c := by
  have h3 := flo_mono (den := den) (q := a / den) h h1.1
  obtain ⟨q, e⟩ := cei_mul den a
  have h4 := h1.2
  rw [e] at h4
  have h5 := cei_mono h h4
  have h6 := h2.1
  have h7 := h2.2
  refine ⟨?_, ?_⟩
  · unfold flo
    omega
  · rw [e]
    omega
theorem Near.whole {den a b : Int} (h : den ∣ a) (hn : Near den a b) : b = a := by
  have h1 := hn.1
  have h2 := hn.2
  rw [flo_dvd h] at h1
  unfold cei at h2
  rw [if_pos h] at h2
  omega
/-- What amounts must be, for a push. -/
structure Good (den : Int) (am : List Am) : Prop where
  d1 : 1 ≤ den
  d2 : den ≤ 1000
  ok : AmOk am
  cons : Cons am
  loop : NoLoop am
  p0 : ∀ k : Nat, k < am.length → 0 ≤ (amAt am k).pa ∧ (amAt am k).pa ≤ 900000000
theorem leastB_fold (p : S117 → Int) : ∀ (l : List S117) (x : S117), (l.foldl (minB p) x = x ∨ l.foldl (minB p) x ∈ l) ∧ p (l.foldl (minB p) x) ≤ p x ∧ ∀ y ∈ l, p (l.foldl (minB p) x) ≤ p y
  | [], x => ⟨.inl rfl, Int.le_refl _, by simp⟩
  | y :: l, x => by
    rw [List.foldl_cons]
    obtain ⟨h1, h2, h3⟩ := leastB_fold p l (minB p x y)
    have hm : (minB p x y = x ∨ minB p x y = y) ∧ p (minB p x y) ≤ p x ∧ p (minB p x y) ≤ p y := by
      unfold minB
      split
      · exact ⟨.inr rfl, by omega, Int.le_refl _⟩
      · exact ⟨.inl rfl, Int.le_refl _, by omega⟩
    refine ⟨?_, by omega, fun z hz => ?_⟩
    · rcases h1 with h1 | h1
      · rcases hm.1 with h4 | h4
        · exact .inl (h1.trans h4)
        · exact .inr (by rw [h1, h4]; simp)
      · exact .inr (by simp [h1])
    · rw [List.mem_cons] at hz
      rcases hz with rfl | hz
      · omega
      · exact h3 z hz
theorem leastB_spec (p : S117 → Int) (x : S117) (l : List S117) : leastB p (x :: l) ∈ x :: l ∧ ∀ y ∈ x :: l, p (leastB p (x :: l)) ≤ p y := by
  obtain ⟨h1, h2, h3⟩ := leastB_fold p l x
  show l.foldl (minB p) x ∈ x :: l ∧ ∀ y ∈ x :: l, p (l.foldl (minB p) x) ≤ p y
  refine ⟨?_, fun y hy => ?_⟩
  · rcases h1 with h1 | h1
    · rw [h1]; simp
    · simp [h1]
  · rw [List.mem_cons] at hy
    rcases hy with rfl | hy
    · exact h2
    · exact h3 y hy
theorem room_spec {den : Int} {a : Am} (h1 : 1 ≤ den) (h2 : den ≤ 1000) (h0 : 0 ≤ a.pa) (hb : brk den a = true) (more : Bool) : 1 ≤ roomF den a more ∧ roomF den a more ≤ 1000 ∧ (more = true → a.pa + roomF den a more = flo den a.pa + den) ∧ (more = false → a.pa - roomF den a more = flo den a.pa) := by
  have hf := flo_le (a := a.pa) h1
  rw [brk_true] at hb
  have hne : flo den a.pa ≠ a.pa := fun e => hb (by rw [← e]; exact Int.dvd_mul_right _ _)
  have hm : a.pa.tmod den = a.pa - flo den a.pa := by
    rw [Int.tmod_eq_emod_of_nonneg h0]
    unfold flo
    have := Int.mul_ediv_add_emod a.pa den
    omega
  unfold roomF
  rw [hm, wrap_id _ (by omega) (by omega)]
  cases more
  · simp
    omega
  · simp
    omega
/-- A push: where an amount is not whole others go round with it until one is whole. -/
theorem push_ok {den : Int} {am : List Am} {i : Nat} (more : Bool) (hg : Good den am) (hi : i < am.length) (hb : brk den (amAt am i) = true) :
    ∃ am', pushR den am i more = some am' ∧ Alike am am' ∧ Cons am' ∧ (∀ j : Nat, j < am.length → Near den (amAt am j).pa (amAt am' j).pa) ∧ (∀ j : Nat, j < am.length → brk den (amAt am' j) = true → brk den (amAt am j) = true) ∧
      (∃ j : Nat, j < am.length ∧ brk den (amAt am j) = true ∧ brk den (amAt am' j) = false) ∧ (if more = true then (amAt am i).pa < (amAt am' i).pa else (amAt am' i).pa < (amAt am i).pa) := by
  obtain ⟨r, hr, hw⟩ := round_way hi hg.ok hg.cons hg.loop hb
  have hw0 : ∀ s ∈ wayR am i r, ∃ k : Nat, StepA am s k ∧ brk den (amAt am k) = true := by
    intro s hs
    unfold wayR at hs
    rw [List.mem_cons] at hs
    rcases hs with rfl | hs
    · exact ⟨i, ⟨hi, rfl, .inl ⟨rfl, rfl⟩, hg.loop i hi, (hg.p0 i hi).1, by have := (hg.p0 i hi).2; omega⟩, hb⟩
    · obtain ⟨k, hk, k0, _, kb, ke⟩ := (hw.ok s hs).ends
      exact ⟨k, ⟨hk, k0, ke, hg.loop k hk, (hg.p0 k hk).1, by have := (hg.p0 k hk).2; omega⟩, kb⟩
  have hnd : ((wayR am i r).map (·.f0)).Nodup := by
    unfold wayR
    rw [List.map_cons, List.nodup_cons]
    refine ⟨fun hm => ?_, hw.nd⟩
    obtain ⟨s, hs, e⟩ := List.mem_map.1 hm
    obtain ⟨k, hk, k0, kn, _, _⟩ := (hw.ok s hs).ends
    exact kn (by rw [← k0]; exact e)
  have hroom : ∀ s ∈ wayR am i r, ∀ k : Nat, StepA am s k → brk den (amAt am k) = true → roomT den am more s = roomF den (amAt am k) (growsF am more s) := by
    intro s hs k hk _
    unfold roomT
    rw [hk.f0]
  have hls := leastB_spec (roomT den am more) ⟨(i : Int), (amAt am i).fr, (amAt am i).tt⟩ r
  obtain ⟨hlm, hll⟩ := hls
  have hby : pushBy den am more (wayR am i r) = roomT den am more (leastB (roomT den am more) (wayR am i r)) := rfl
  obtain ⟨kl, hkl, hbl⟩ := hw0 _ hlm
  have hrl := room_spec hg.d1 hg.d2 hkl.p0 hbl (growsF am more (leastB (roomT den am more) (⟨(i : Int), (amAt am i).fr, (amAt am i).tt⟩ :: r)))
  have hrl2 := hroom _ hlm kl hkl hbl
  have hb01 : 1 ≤ pushBy den am more (wayR am i r) ∧ pushBy den am more (wayR am i r) ≤ 1000 := by
    rw [hby]
    refine ⟨?_, ?_⟩
    · rw [show leastB (roomT den am more) (wayR am i r) = leastB (roomT den am more) (⟨(i : Int), (amAt am i).fr, (amAt am i).tt⟩ :: r) from rfl, hrl2]
      exact hrl.1
    · rw [show leastB (roomT den am more) (wayR am i r) = leastB (roomT den am more) (⟨(i : Int), (amAt am i).fr, (amAt am i).tt⟩ :: r) from rfl, hrl2]
      exact hrl.2.1
  have hle : ∀ s ∈ wayR am i r, pushBy den am more (wayR am i r) ≤ roomT den am more s := hll
  obtain ⟨f1, f2, f3, f4⟩ := fold_push (more := more) (by_ := pushBy den am more (wayR am i r)) ⟨by omega, hb01.2⟩ (wayR am i r) am (fun s hs => by
    obtain ⟨k, hk, _⟩ := hw0 s hs
    exact ⟨k, hk⟩) hnd
  have hpush : pushR den am i more = some ((wayR am i r).foldl (pushStep more (pushBy den am more (wayR am i r))) am) := by
    unfold pushR
    rw [hr, Option.bind_some, if_neg hw.ne]
  generalize (wayR am i r).foldl (pushStep more (pushBy den am more (wayR am i r))) am = am' at *
  generalize hbe : pushBy den am more (wayR am i r) = b at *
  -- each amount of the way
  have hmove : ∀ s ∈ wayR am i r, ∀ k : Nat, StepA am s k → brk den (amAt am k) = true → Near den (amAt am k).pa (amAt am' k).pa := by
    intro s hs k hk hbk
    have h3 := f3 s hs
    have h5 := room_spec hg.d1 hg.d2 hk.p0 hbk (growsF am more s)
    have h6 := hle s hs
    rw [hroom s hs k hk hbk] at h6
    rw [hk.f0] at h3
    have h7 := flo_le (a := (amAt am k).pa) hg.d1
    have h8 : cei den (amAt am k).pa = flo den (amAt am k).pa + den := by
      unfold cei flo
      rw [if_neg (brk_true.1 hbk)]
    unfold Near
    rw [h3, h8]
    cases hgr : growsF am more s with
    | true =>
      rw [if_pos rfl]
      rw [hgr] at h5 h6
      have := h5.2.2.1 rfl
      omega
    | false =>
      rw [if_neg (by decide)]
      rw [hgr] at h5 h6
      have := h5.2.2.2 rfl
      omega
  refine ⟨am', hpush, f1, ?_, ?_, ?_, ?_, ?_⟩
  · intro S
    rw [f4 S, hg.cons S]
    have h1 := path_sum S r _ hw.path
    have h2 : wayS S (wayR am i r) = 0 := by
      unfold wayR wayS
      rw [List.map_cons, List.sum_cons]
      unfold wayS at h1
      rw [h1]
      simp only
      omega
    rw [h2]
    simp
  · intro j hj
    by_cases hex : ∃ s ∈ wayR am i r, s.f0 = (j : Int)
    · obtain ⟨s, hs, e⟩ := hex
      obtain ⟨k, hk, hbk⟩ := hw0 s hs
      have : k = j := by have := hk.f0; omega
      subst this
      exact hmove s hs k hk hbk
    · rw [f2 j (fun s hs e => hex ⟨s, hs, e⟩)]
      exact Near.refl hg.d1
  · intro j hj hbj
    by_cases hex : ∃ s ∈ wayR am i r, s.f0 = (j : Int)
    · obtain ⟨s, hs, e⟩ := hex
      obtain ⟨k, hk, hbk⟩ := hw0 s hs
      have : k = j := by have := hk.f0; omega
      subst this
      exact hbk
    · rw [f2 j (fun s hs e => hex ⟨s, hs, e⟩)] at hbj
      exact hbj
  · refine ⟨kl, hkl.lt, hbl, ?_⟩
    rw [brk_dvd]
    have h3 := f3 _ hlm
    have h4 : b = roomF den (amAt am kl) (growsF am more (leastB (roomT den am more) (⟨(i : Int), (amAt am i).fr, (amAt am i).tt⟩ :: r))) := by
      rw [← hrl2, ← hbe]
      rfl
    rw [hkl.f0] at h3
    rw [h3]
    have hfd : den ∣ flo den (amAt am kl).pa := Int.dvd_mul_right _ _
    cases hgr : growsF am more (leastB (roomT den am more) (⟨(i : Int), (amAt am i).fr, (amAt am i).tt⟩ :: r)) with
    | true =>
      rw [if_pos rfl]
      rw [hgr] at hrl h4
      rw [h4, hrl.2.2.1 rfl]
      exact Int.dvd_add hfd (Int.dvd_refl _)
    | false =>
      rw [if_neg (by decide)]
      rw [hgr] at hrl h4
      rw [h4, hrl.2.2.2 rfl]
      exact hfd
  · have h3 := f3 ⟨(i : Int), (amAt am i).fr, (amAt am i).tt⟩ (by unfold wayR; simp)
    have h4 : growsF am more ⟨(i : Int), (amAt am i).fr, (amAt am i).tt⟩ = more := by
      unfold growsF
      simp
    rw [h4] at h3
    simp only at h3
    rw [h3]
    cases more
    · simp
      omega
    · simp
      omega
end Go.Proofs.Ytcgdbjojjpoegaa.P

/- Settle and force end, with amounts that lie near those that were: plain law. -/
namespace Go.Proofs.Ytcgdbjojjpoegaa.P
open Go.RowKit Go.Proofs.YtcgdbjojjpoegaaW.PrintWords Go.Proofs.YtcgdbjojjpoegaaW.PrintLast Go.Proofs.YtcgdbjojjpoegaaW.PrintMore
set_option linter.unusedVariables false
set_option linter.unusedSimpArgs false

/-- amounts that go round, none of them too great -/
structure Base (N : Int) (den : Int) (am : List Am) : Prop where
  d1 : 1 ≤ den
  d2 : den ≤ 1000
  ok : AmOk am
  cons : Cons am
  loop : NoLoop am
  p0 : ∀ k : Nat, k < am.length → 0 ≤ (amAt am k).pa ∧ (amAt am k).pa ≤ N
/-- amounts that came of others -/
structure Inv (den : Int) (am0 am : List Am) : Prop where
  al : Alike am0 am
  cons : Cons am
  near : ∀ j : Nat, j < am0.length → Near den (amAt am0 j).pa (amAt am j).pa
theorem NoLoop.alike {am am2 : List Am} (h : NoLoop am) (ha : Alike am am2) : NoLoop am2 := by
  intro k hk
  have hk' : k < am.length := by rw [← ha.1]; exact hk
  rw [(ha.2 k hk').1, (ha.2 k hk').2]
  exact h k hk'
theorem Near.rng {den a b : Int} (h : 1 ≤ den) (h0 : 0 ≤ a) (hn : Near den a b) : 0 ≤ b ∧ b ≤ a + den := by
  have h1 := hn.1
  have h2 := hn.2
  have h3 := cei_le (a := a) h
  have h4 : 0 ≤ flo den a := Int.mul_nonneg (by omega) (Int.ediv_nonneg h0 (by omega))
  omega
theorem Inv.refl {N den : Int} {am : List Am} (h : Base N den am) : Inv den am am := ⟨Alike.refl am, h.cons, fun j _ => Near.refl h.d1⟩
theorem Inv.base {N den : Int} {am0 am : List Am} (h : Base N den am0) (hi : Inv den am0 am) : Base (N + 1000) den am := by
  refine ⟨h.d1, h.d2, h.ok.alike hi.al, hi.cons, h.loop.alike hi.al, fun k hk => ?_⟩
  have hk' : k < am0.length := by rw [← hi.al.1]; exact hk
  have := (hi.near k hk').rng h.d1 (h.p0 k hk').1
  have := (h.p0 k hk').2
  have := h.d2
  omega
theorem Base.good {N den : Int} {am : List Am} (h : Base N den am) (hN : N ≤ 900000000) : Good den am :=
  ⟨h.d1, h.d2, h.ok, h.cons, h.loop, fun k hk => ⟨(h.p0 k hk).1, by have := (h.p0 k hk).2; omega⟩⟩
theorem Inv.trans {N den : Int} {am0 am1 am2 : List Am} (h : Base N den am0) (h1 : Inv den am0 am1) (h2 : Inv den am1 am2) : Inv den am0 am2 :=
  ⟨h1.al.trans h2.al, h2.cons, fun j hj => (h1.near j hj).trans h.d1 (h2.near j (by rw [h1.al.1]; exact hj))⟩
/-- how many amounts are not whole -/
def brkN (den : Int) (am : List Am) : Nat := am.countP (brk den)
theorem countP_lt (p : Am → Bool) : ∀ (l l' : List Am), l'.length = l.length → (∀ k (h : k < l.length) (h' : k < l'.length), p l'[k] = true → p l[k] = true) → (∃ k, ∃ (h : k < l.length) (h' : k < l'.length), p l[k] = true ∧ p l'[k] = false) → l'.countP p < l.countP p
  | [], [], _, _, ⟨k, h, _⟩ => by simp at h
  | [], _ :: _, h, _, _ => by simp at h
  | _ :: _, [], h, _, _ => by simp at h
  | a :: l, a' :: l', hl, h, ⟨k, hk, hk', h1, h2⟩ => by
    have hl' : l'.length = l.length := by simpa using hl
    have hle : ∀ (l l' : List Am), l'.length = l.length → (∀ k (h : k < l.length) (h' : k < l'.length), p l'[k] = true → p l[k] = true) → l'.countP p ≤ l.countP p := by
      intro l
      induction l with
      | nil =>
        intro l' hl _
        have : l' = [] := List.length_eq_zero_iff.1 hl
        subst this
        simp
      | cons a l ih =>
        intro l' hl h
        cases l' with
        | nil => simp at hl
        | cons a' l' =>
          have h0 := h 0 (by simp) (by simp)
          simp only [List.getElem_cons_zero] at h0
          have := ih l' (by simpa using hl) (fun k hk hk' => by
            have := h (k + 1) (by simpa using hk) (by simpa using hk')
            simpa using this)
          rw [List.countP_cons, List.countP_cons]
          cases ha : p a' with
          | false => simp; omega
          | true => rw [h0 ha]; simp; omega
    have h0 := h 0 (by simp) (by simp)
    simp only [List.getElem_cons_zero] at h0
    have ht : ∀ k (h : k < l.length) (h' : k < l'.length), p l'[k] = true → p l[k] = true := fun k hk hk' => by
      have := h (k + 1) (by simpa using hk) (by simpa using hk')
      simpa using this
    rw [List.countP_cons, List.countP_cons]
    cases k with
    | zero =>
      simp only [List.getElem_cons_zero] at h1 h2
      have := hle l l' hl' ht
      rw [h1, h2]
      simp
      omega
    | succ k =>
      simp only [List.getElem_cons_succ] at h1 h2
      have := countP_lt p l l' hl' ht ⟨k, by simpa using hk, by simpa using hk', h1, h2⟩
      cases ha : p a' with
      | false => simp; omega
      | true => rw [h0 ha]; simp; omega
theorem brkN_lt {den : Int} {am am' : List Am} (hl : am'.length = am.length) (h : ∀ j : Nat, j < am.length → brk den (amAt am' j) = true → brk den (amAt am j) = true) (hx : ∃ j : Nat, j < am.length ∧ brk den (amAt am j) = true ∧ brk den (amAt am' j) = false) : brkN den am' < brkN den am := by
  refine countP_lt _ am am' hl (fun k hk hk' hb => ?_) ?_
  · have := h k hk
    rw [amAt_nat am k hk, amAt_nat am' k hk'] at this
    exact this hb
  · obtain ⟨j, hj, h1, h2⟩ := hx
    have hj' : j < am'.length := by rw [hl]; exact hj
    rw [amAt_nat am j hj] at h1
    rw [amAt_nat am' j hj'] at h2
    exact ⟨j, hj, hj', h1, h2⟩
theorem lastF_none {den : Int} {am : List Am} : ∀ k : Nat, lastF den am k = none → ∀ j : Nat, j < k → brk den (amAt am j) = false
  | 0, _, j, hj => by omega
  | k + 1, h, j, hj => by
    rw [lastF] at h
    cases hb : brk den (amAt am k) with
    | true => rw [hb] at h; simp at h
    | false =>
      rw [hb, if_neg (by decide)] at h
      rcases Nat.lt_or_ge j k with h1 | h1
      · exact lastF_none k h j h1
      · have : j = k := by omega
        subst this
        exact hb
theorem settle_inv {N den : Int} {am0 : List Am} (hB : Base N den am0) (hN : N ≤ 800000000) : ∀ (n fuel : Nat) (am : List Am), Inv den am0 am → brkN den am ≤ n → n ≤ fuel → ∃ am', settleR den fuel am = some am' ∧ Inv den am0 am' ∧ ∀ j : Nat, j < am0.length → brk den (amAt am' j) = false
  | n, fuel, am, hi, hn, hf => by
    have hg := (hi.base hB).good (by omega)
    cases hl : lastF den am am.length with
    | none =>
      refine ⟨am, ?_, hi, fun j hj => lastF_none _ hl j (by rw [hi.al.1]; exact hj)⟩
      cases fuel with
      | zero => rw [settleR, hl]
      | succ f => rw [settleR, hl]
    | some i =>
      obtain ⟨hil, hib⟩ := lastF_lt hl
      obtain ⟨am1, h1, h2, h3, h4, h5, h6, _⟩ := push_ok true hg hil hib
      have hlt := brkN_lt h2.1 h5 h6
      cases fuel with
      | zero => omega
      | succ f =>
        have hi1 : Inv den am0 am1 := ⟨hi.al.trans h2, h3, fun j hj => (hi.near j hj).trans hB.d1 (h4 j (by rw [hi.al.1]; exact hj))⟩
        obtain ⟨am', e, r⟩ := settle_inv hB hN (n - 1) f am1 hi1 (by omega) (by omega)
        refine ⟨am', ?_, r⟩
        rw [settleR, hl]
        show (pushR den am i true).bind (settleR den f) = some am'
        rw [h1, Option.bind_some, e]
termination_by n _ _ => n
decreasing_by omega
theorem brkN_le (den : Int) (am : List Am) : brkN den am ≤ am.length := List.countP_le_length
theorem settle_ok {N den : Int} {am : List Am} (hB : Base N den am) (hN : N ≤ 800000000) (fuel : Nat) (hf : am.length ≤ fuel) : ∃ am', settleR den fuel am = some am' ∧ Inv den am am' ∧ ∀ j : Nat, j < am.length → brk den (amAt am' j) = false :=
  settle_inv hB hN am.length fuel am (Inv.refl hB) (brkN_le den am) hf
end Go.Proofs.Ytcgdbjojjpoegaa.P

/- What a book of a table is: its cells, the sums of lines, of columns, and of all: plain law. -/
namespace Go.Proofs.Ytcgdbjojjpoegaa.P
open Go.RowKit Go.Proofs.YtcgdbjojjpoegaaW.PrintWords Go.Proofs.YtcgdbjojjpoegaaW.PrintLast Go.Proofs.YtcgdbjojjpoegaaW.PrintMore
set_option linter.unusedVariables false
set_option linter.unusedSimpArgs false

def rowA (i : Nat) : Nat → List Int → List Am
  | _, [] => []
  | k, x :: xs => ⟨(i : Int), 6 + (k : Int), x⟩ :: rowA i (k + 1) xs
def rowsA : Nat → List (List Int) → List Am
  | _, [] => []
  | i, x :: l => rowA i 0 x ++ rowsA (i + 1) l
def lineS (l : List (List Int)) (i : Nat) : Int := (l.getD i []).sum
def colS (l : List (List Int)) (k : Nat) : Int := (l.map fun x => x.getD k 0).sum
def allS (l : List (List Int)) : Int := (l.map List.sum).sum
def bookX (l : List (List Int)) (n m : Nat) : List Am :=
  rowsA 0 l ++ (List.range n).map (fun (i : Nat) => ⟨12, (i : Int), lineS l i⟩) ++ (List.range m).map (fun (k : Nat) => ⟨6 + (k : Int), 13, colS l k⟩) ++ [⟨13, 12, allS l⟩]
/-- numbers that do not become too great -/
def Small (xs : List Int) : Prop := ∀ x ∈ xs, 0 ≤ x ∧ x ≤ 100000000
structure BS (T : Nat) (s : Bs) : Prop where
  of : ∀ p : Nat, 0 ≤ s.of.getD p 0 ∧ s.of.getD p 0 ≤ 100000000 * (T : Int)
  all : 0 ≤ s.all ∧ s.all ≤ 100000000 * (T : Int)
theorem stepB_spec {n i k : Nat} {x : Int} {s : Bs} {T : Nat} (h : BS T s) (hx : 0 ≤ x ∧ x ≤ 100000000) (hT : T ≤ 1000) (hi : i < n) (hk : n + k < s.of.length) :
    (stepB n i k x s).am = s.am ++ [⟨(i : Int), 6 + (k : Int), x⟩] ∧ (stepB n i k x s).of.length = s.of.length ∧ (∀ p : Nat, (stepB n i k x s).of.getD p 0 = s.of.getD p 0 + (if p = i then x else 0) + (if p = n + k then x else 0)) ∧ (stepB n i k x s).all = s.all + x ∧ BS (T + 1) (stepB n i k x s) := by
  have hof := h.of
  have hall := h.all
  have h1 : ∀ p : Nat, (stepB n i k x s).of.getD p 0 = s.of.getD p 0 + (if p = i then x else 0) + (if p = n + k then x else 0) := by
    intro p
    unfold stepB
    simp only
    have a1 := hof i
    have a2 := hof (n + k)
    rw [getD_set_z _ _ _ _ (by rw [List.length_set]; omega), getD_set_z _ _ _ _ (by omega), wrap_id (s.of.getD i 0 + x) (by omega) (by omega), getD_set_z _ _ _ _ (by omega), if_neg (show ¬ n + k = i by omega), wrap_id _ (by omega) (by omega)]
    by_cases e1 : p = n + k
    · subst e1
      rw [if_pos rfl, if_neg (by omega), if_pos rfl]
      omega
    · rw [if_neg e1, if_neg e1]
      by_cases e2 : p = i
      · subst e2
        rw [if_pos rfl, if_pos rfl]
        omega
      · rw [if_neg e2, if_neg e2]
        omega
  have h2 : (stepB n i k x s).all = s.all + x := by
    unfold stepB
    simp only
    rw [wrap_id _ (by omega) (by omega)]
  refine ⟨rfl, by simp [stepB], h1, h2, ⟨fun p => ?_, ?_⟩⟩
  · rw [h1]
    have := hof p
    split <;> split <;> omega
  · rw [h2]
    omega
theorem lineB_spec {n i : Nat} (hi : i < n) : ∀ (xs : List Int) (k : Nat) (s : Bs) (T : Nat), BS T s → Small xs → T + xs.length ≤ 1000 → n + k + xs.length ≤ s.of.length →
    (lineB n i k xs s).am = s.am ++ rowA i k xs ∧ (lineB n i k xs s).of.length = s.of.length ∧ (∀ p : Nat, (lineB n i k xs s).of.getD p 0 = s.of.getD p 0 + (if p = i then xs.sum else 0) + (if n + k ≤ p then xs.getD (p - (n + k)) 0 else 0)) ∧ (lineB n i k xs s).all = s.all + xs.sum ∧ BS (T + xs.length) (lineB n i k xs s)
  | [], k, s, T, h, _, _, _ => ⟨by simp [lineB, rowA], rfl, fun p => by simp [lineB], by simp [lineB], h⟩
  | x :: xs, k, s, T, h, hs, hT, hl => by
    rw [List.length_cons] at hT hl
    obtain ⟨a1, a2, a3, a4, a5⟩ := stepB_spec (n := n) (i := i) (k := k) h (hs x (by simp)) (by omega) hi (by omega)
    obtain ⟨b1, b2, b3, b4, b5⟩ := lineB_spec hi xs (k + 1) (stepB n i k x s) (T + 1) a5 (fun y hy => hs y (by simp [hy])) (by omega) (by rw [a2]; omega)
    rw [lineB]
    refine ⟨by rw [b1, a1, rowA, List.append_assoc]; rfl, by rw [b2, a2], fun p => ?_, by rw [b4, a4, List.sum_cons]; omega, by rw [List.length_cons, show T + (xs.length + 1) = T + 1 + xs.length by omega]; exact b5⟩
    rw [b3, a3, List.sum_cons]
    by_cases e1 : p = n + k
    · subst e1
      have h1 : ¬ n + k = i := by omega
      have h2 : ¬ n + (k + 1) ≤ n + k := by omega
      simp only [if_neg h1, if_neg h2, if_true, Nat.le_refl, Nat.sub_self, List.getD_cons_zero]
      omega
    · by_cases e2 : n + (k + 1) ≤ p
      · have h1 : ¬ p = i := by omega
        have h2 : n + k ≤ p := by omega
        simp only [if_neg h1, if_neg e1, if_pos e2, if_pos h2]
        rw [show p - (n + k) = (p - (n + (k + 1))) + 1 by omega, List.getD_cons_succ]
        omega
      · have h2 : ¬ n + k ≤ p := by omega
        simp only [if_neg e1, if_neg e2, if_neg h2]
        split <;> omega
theorem linesB_spec {n : Nat} {m : Nat} : ∀ (l : List (List Int)) (i : Nat) (s : Bs) (T : Nat), BS T s → (∀ x ∈ l, Small x ∧ x.length = m) → m ≤ 10 → T + l.length * 10 ≤ 1000 → i + l.length ≤ n → n + m ≤ s.of.length →
    (linesB n i l s).am = s.am ++ rowsA i l ∧ (linesB n i l s).of.length = s.of.length ∧ (∀ p : Nat, (linesB n i l s).of.getD p 0 = s.of.getD p 0 + (if i ≤ p ∧ p < n then (l.getD (p - i) []).sum else 0) + (if n ≤ p then (l.map fun x => x.getD (p - n) 0).sum else 0)) ∧ (linesB n i l s).all = s.all + allS l
  | [], i, s, T, h, _, _, _, _, _ => ⟨by simp [linesB, rowsA], rfl, fun p => by simp [linesB], by simp [linesB, allS]⟩
  | x :: l, i, s, T, h, hs, hm, hT, hi, hl => by
    rw [List.length_cons] at hT hi
    obtain ⟨hx, hxm⟩ := hs x (by simp)
    obtain ⟨a1, a2, a3, a4, a5⟩ := lineB_spec (n := n) (i := i) (by omega) x 0 s T h hx (by omega) (by omega)
    obtain ⟨b1, b2, b3, b4⟩ := linesB_spec (n := n) (m := m) l (i + 1) (lineB n i 0 x s) (T + x.length) a5 (fun y hy => hs y (by simp [hy])) hm (by omega) (by omega) (by rw [a2]; exact hl)
    rw [linesB]
    refine ⟨by rw [b1, a1, rowsA, List.append_assoc], by rw [b2, a2], fun p => ?_, by rw [b4, a4]; unfold allS; rw [List.map_cons, List.sum_cons]; omega⟩
    rw [b3, a3, List.map_cons, List.sum_cons, Nat.add_zero]
    by_cases e1 : n ≤ p
    · have h1 : ¬ p = i := by omega
      have h2 : ¬ (i + 1 ≤ p ∧ p < n) := by omega
      have h3 : ¬ (i ≤ p ∧ p < n) := by omega
      simp only [if_neg h1, if_neg h2, if_neg h3, if_pos e1]
      omega
    · by_cases e2 : p = i
      · subst e2
        have h2 : ¬ (p + 1 ≤ p ∧ p < n) := by omega
        have h3 : p ≤ p ∧ p < n := by omega
        simp only [if_neg h2, if_pos h3, if_neg e1, if_true, Nat.sub_self, List.getD_cons_zero]
        omega
      · by_cases e3 : i + 1 ≤ p ∧ p < n
        · have h3 : i ≤ p ∧ p < n := by omega
          simp only [if_neg e2, if_neg e1, if_pos e3, if_pos h3]
          rw [show p - i = (p - (i + 1)) + 1 by omega, List.getD_cons_succ]
          omega
        · have h3 : ¬ (i ≤ p ∧ p < n) := by omega
          simp only [if_neg e2, if_neg e1, if_neg e3, if_neg h3]
          omega
/-- What a table is that a book takes, with numbers that do not become too great. -/
structure TabS (l : List (List Int)) : Prop where
  tab : Tab l
  small : ∀ x ∈ l, Small x
theorem bookAm_eq {l : List (List Int)} (h : TabS l) : bookAm l = bookX l l.length (rd_L2 l 0).length := by
  have hn6 := h.tab.n6
  have hm6 := h.tab.m6
  obtain ⟨b1, b2, b3, b4⟩ := linesB_spec (n := l.length) (m := (rd_L2 l 0).length) l 0 ⟨[], List.replicate (l.length + (rd_L2 l 0).length) 0, 0⟩ 0 ⟨fun p => by simp only; rw [rep0]; omega, by simp⟩ (fun x hx => ⟨h.small x hx, h.tab.eq x hx⟩) (by omega) (by omega) (by omega) (by simp)
  have hb : bookB l = linesB l.length 0 l ⟨[], List.replicate (l.length + (rd_L2 l 0).length) 0, 0⟩ := rfl
  unfold bookAm endB bookX
  rw [hb]
  rw [b1, b4, List.nil_append, Int.zero_add]
  have e1 : sumsL l.length (linesB l.length 0 l ⟨[], List.replicate (l.length + (rd_L2 l 0).length) 0, 0⟩).of l.length = (List.range l.length).map (fun (i : Nat) => (⟨12, (i : Int), lineS l i⟩ : Am)) := by
    unfold sumsL
    refine List.map_congr_left fun p hp => ?_
    rw [List.mem_range] at hp
    rw [b3 p]
    simp only
    rw [rep0, if_pos ⟨Nat.zero_le _, hp⟩, if_neg (by omega), Nat.sub_zero]
    unfold lineS
    simp
  have e2 : sumsC l.length (linesB l.length 0 l ⟨[], List.replicate (l.length + (rd_L2 l 0).length) 0, 0⟩).of (rd_L2 l 0).length = (List.range (rd_L2 l 0).length).map (fun (k : Nat) => (⟨6 + (k : Int), 13, colS l k⟩ : Am)) := by
    unfold sumsC
    refine List.map_congr_left fun p hp => ?_
    rw [b3 (l.length + p)]
    simp only
    rw [rep0, if_neg (by omega), if_pos (by omega), show l.length + p - l.length = p by omega]
    unfold colS
    simp
  rw [e1, e2]
theorem rowA_len (i : Nat) : ∀ (xs : List Int) (k : Nat), (rowA i k xs).length = xs.length
  | [], k => rfl
  | x :: xs, k => by rw [rowA, List.length_cons, rowA_len i xs (k + 1), List.length_cons]
theorem rowA_at (i : Nat) : ∀ (xs : List Int) (k j : Nat) (h : j < xs.length), (rowA i k xs)[j]? = some ⟨(i : Int), 6 + ((k + j : Nat) : Int), xs[j]⟩
  | [], k, j, h => by simp at h
  | x :: xs, k, 0, h => by simp [rowA]
  | x :: xs, k, j + 1, h => by
    rw [rowA, List.getElem?_cons_succ, rowA_at i xs (k + 1) j (by simpa using h)]
    simp
    omega
theorem rowsA_len (m : Nat) : ∀ (l : List (List Int)) (i : Nat), (∀ x ∈ l, x.length = m) → (rowsA i l).length = l.length * m
  | [], i, _ => by simp [rowsA]
  | x :: l, i, h => by
    rw [rowsA, List.length_append, rowA_len, h x (by simp), rowsA_len m l (i + 1) (fun y hy => h y (by simp [hy])), List.length_cons, Nat.add_mul]
    omega
theorem rowsA_at (m : Nat) : ∀ (l : List (List Int)) (i r k : Nat), (∀ x ∈ l, x.length = m) → r < l.length → k < m → (rowsA i l)[r * m + k]? = some ⟨((i + r : Nat) : Int), 6 + (k : Int), (l.getD r []).getD k 0⟩
  | [], i, r, k, _, h, _ => by simp at h
  | x :: l, i, 0, k, h, _, hk => by
    have hx := h x (by simp)
    rw [rowsA, Nat.zero_mul, Nat.zero_add, List.getElem?_append_left (by rw [rowA_len]; omega), rowA_at i x 0 k (by omega)]
    simp [List.getD, hx, hk]
  | x :: l, i, r + 1, k, h, hr, hk => by
    have hx := h x (by simp)
    rw [rowsA, List.getElem?_append_right (by rw [rowA_len, hx, Nat.add_mul]; omega), rowA_len, hx, show (r + 1) * m + k - m = r * m + k by rw [Nat.add_mul]; omega, rowsA_at m l (i + 1) r k (fun y hy => h y (by simp [hy])) (by simpa using hr) hk, List.getD_cons_succ, show i + 1 + r = i + (r + 1) by omega]
/-- The amounts of a book, one by one. -/
theorem bookX_cell {l : List (List Int)} {m : Nat} (h : ∀ x ∈ l, x.length = m) {r k : Nat} (hr : r < l.length) (hk : k < m) : amAt (bookX l l.length m) ((r * m + k : Nat) : Int) = ⟨(r : Int), 6 + (k : Int), (l.getD r []).getD k 0⟩ := by
  have h1 := rowsA_at m l 0 r k h hr hk
  have hlt : r * m + k < (rowsA 0 l).length := (List.getElem?_eq_some_iff.1 h1).1
  unfold amAt bookX
  rw [Int.toNat_natCast, List.getD_eq_getElem?_getD, List.append_assoc, List.append_assoc, List.getElem?_append_left hlt, h1]
  simp
theorem bookX_line {l : List (List Int)} {m : Nat} (h : ∀ x ∈ l, x.length = m) {r : Nat} (hr : r < l.length) : amAt (bookX l l.length m) ((l.length * m + r : Nat) : Int) = ⟨12, (r : Int), lineS l r⟩ := by
  have hl := rowsA_len m l 0 h
  unfold amAt bookX
  rw [Int.toNat_natCast, List.getD_eq_getElem?_getD, List.append_assoc, List.append_assoc, List.getElem?_append_right (by omega), hl, show l.length * m + r - l.length * m = r by omega, List.getElem?_append_left (by simpa using hr)]
  simp [hr]
theorem bookX_col {l : List (List Int)} {m : Nat} (h : ∀ x ∈ l, x.length = m) {k : Nat} (hk : k < m) : amAt (bookX l l.length m) ((l.length * m + l.length + k : Nat) : Int) = ⟨6 + (k : Int), 13, colS l k⟩ := by
  have hl := rowsA_len m l 0 h
  unfold amAt bookX
  rw [Int.toNat_natCast, List.getD_eq_getElem?_getD, List.append_assoc, List.append_assoc, List.getElem?_append_right (by omega), hl, show l.length * m + l.length + k - l.length * m = l.length + k by omega, List.getElem?_append_right (by simp), List.length_map, List.length_range, show l.length + k - l.length = k by omega, List.getElem?_append_left (by simpa using hk)]
  simp [hk]
theorem bookX_all {l : List (List Int)} {m : Nat} (h : ∀ x ∈ l, x.length = m) : amAt (bookX l l.length m) ((l.length * m + l.length + m : Nat) : Int) = ⟨13, 12, allS l⟩ := by
  have hl := rowsA_len m l 0 h
  unfold amAt bookX
  rw [Int.toNat_natCast, List.getD_eq_getElem?_getD, List.append_assoc, List.append_assoc, List.getElem?_append_right (by omega), hl, show l.length * m + l.length + m - l.length * m = l.length + m by omega, List.getElem?_append_right (by simp), List.length_map, List.length_range, show l.length + m - l.length = m by omega, List.getElem?_append_right (by simp)]
  simp
theorem bookX_len {l : List (List Int)} {m : Nat} (h : ∀ x ∈ l, x.length = m) : (bookX l l.length m).length = l.length * m + l.length + m + 1 := by
  unfold bookX
  simp [rowsA_len m l 0 h]
  omega
/-- Each amount is a cell, a line, a column, or all. -/
theorem index_cases {n m j : Nat} (hj : j < n * m + n + m + 1) (hm : 0 < m) : (∃ r k, r < n ∧ k < m ∧ j = r * m + k) ∨ (∃ r, r < n ∧ j = n * m + r) ∨ (∃ k, k < m ∧ j = n * m + n + k) ∨ j = n * m + n + m := by
  rcases Nat.lt_or_ge j (n * m) with h | h
  · left
    refine ⟨j / m, j % m, ?_, Nat.mod_lt _ hm, ?_⟩
    · rw [Nat.div_lt_iff_lt_mul hm]
      exact h
    · rw [Nat.mul_comm]
      exact (Nat.div_add_mod j m).symm
  · right
    rcases Nat.lt_or_ge j (n * m + n) with h2 | h2
    · exact .inl ⟨j - n * m, by omega, by omega⟩
    · right
      rcases Nat.lt_or_ge j (n * m + n + m) with h3 | h3
      · exact .inl ⟨j - (n * m + n), by omega, by omega⟩
      · exact .inr (by omega)
end Go.Proofs.Ytcgdbjojjpoegaa.P

/- The amounts of a book go round; what a rounding's amounts are: plain law. -/
namespace Go.Proofs.Ytcgdbjojjpoegaa.P
open Go.RowKit Go.Proofs.YtcgdbjojjpoegaaW.PrintWords Go.Proofs.YtcgdbjojjpoegaaW.PrintLast Go.Proofs.YtcgdbjojjpoegaaW.PrintMore
set_option linter.unusedVariables false
set_option linter.unusedSimpArgs false

/-- a sum with weights -/
def wS (c : Nat → Int) : Nat → List Int → Int
  | _, [] => 0
  | k, x :: xs => x * c k + wS c (k + 1) xs
theorem wS_range (c : Nat → Int) : ∀ (xs : List Int) (k : Nat), ((List.range xs.length).map fun j => xs.getD j 0 * c (k + j)).sum = wS c k xs
  | [], k => by simp [wS]
  | x :: xs, k => by
    rw [List.length_cons, List.range_succ_eq_map, List.map_cons, List.sum_cons, List.map_map]
    have h := wS_range c xs (k + 1)
    rw [wS, ← h]
    congr 1
    refine congrArg List.sum (List.map_congr_left fun j _ => ?_)
    simp only [Function.comp, List.getD_cons_succ]
    rw [show k + (j + 1) = k + 1 + j by omega]
theorem wS_add (c d : Nat → Int) : ∀ (xs : List Int) (k : Nat), wS (fun j => c j - d j) k xs = wS c k xs - wS d k xs
  | [], k => by simp [wS]
  | x :: xs, k => by
    rw [wS, wS, wS, wS_add c d xs (k + 1), Int.mul_sub]
    omega
theorem wS_const (v : Int) : ∀ (xs : List Int) (k : Nat), wS (fun _ => v) k xs = xs.sum * v
  | [], k => by simp [wS]
  | x :: xs, k => by
    rw [wS, wS_const v xs (k + 1), List.sum_cons, Int.add_mul]
theorem outS_append (S : Int → Bool) (a b : List Am) : outS S (a ++ b) = outS S a + outS S b := by
  unfold outS
  rw [List.map_append, List.sum_append]
theorem out_row (S : Int → Bool) (i : Nat) : ∀ (xs : List Int) (k : Nat), outS S (rowA i k xs) = xs.sum * indS S i - wS (fun j => indS S (6 + (j : Int))) k xs
  | [], k => by simp [outS, rowA, wS]
  | x :: xs, k => by
    have h := out_row S i xs (k + 1)
    unfold outS at h ⊢
    rw [rowA, List.map_cons, List.sum_cons, h, outA_eq, wS, List.sum_cons, Int.add_mul, Int.mul_sub]
    simp only
    omega
/-- sums of columns, with weights -/
def colW (c : Nat → Int) : List (List Int) → Int
  | [] => 0
  | x :: l => wS c 0 x + colW c l
theorem out_rows (S : Int → Bool) : ∀ (l : List (List Int)) (i : Nat), outS S (rowsA i l) = wS (fun j => indS S (j : Int)) i (l.map List.sum) - colW (fun j => indS S (6 + (j : Int))) l
  | [], i => by simp [outS, rowsA, wS, colW]
  | x :: l, i => by
    rw [rowsA, outS_append, out_row, out_rows S l (i + 1), List.map_cons, wS, colW]
    omega
theorem colW_range (c : Nat → Int) (m : Nat) : ∀ (l : List (List Int)), (∀ x ∈ l, x.length = m) → ((List.range m).map fun k => colS l k * c k).sum = colW c l
  | [], _ => by
    unfold colS colW
    induction m with
    | zero => simp
    | succ m ih => rw [List.range_succ, List.map_append, List.sum_append, ih (by simp)]; simp
  | x :: l, h => by
    have hx := h x (by simp)
    have h1 := colW_range c m l (fun y hy => h y (by simp [hy]))
    have h2 := wS_range c x 0
    rw [hx] at h2
    rw [colW, ← h1, ← h2]
    have key : ∀ (r : List Nat), (r.map fun k => colS (x :: l) k * c k).sum = (r.map fun j => x.getD j 0 * c (0 + j)).sum + (r.map fun k => colS l k * c k).sum := by
      intro r
      induction r with
      | nil => simp
      | cons k r ih =>
        rw [List.map_cons, List.map_cons, List.map_cons, List.sum_cons, List.sum_cons, List.sum_cons, ih, Nat.zero_add]
        unfold colS
        rw [List.map_cons, List.sum_cons, Int.add_mul]
        omega
    exact key _
theorem colW_const (v : Int) (l : List (List Int)) : colW (fun _ => v) l = allS l * v := by
  induction l with
  | nil => simp [colW, allS]
  | cons x l ih =>
    unfold allS at ih ⊢
    rw [colW, ih, wS_const, List.map_cons, List.sum_cons, Int.add_mul]
theorem colW_sub (c d : Nat → Int) (l : List (List Int)) : colW (fun j => c j - d j) l = colW c l - colW d l := by
  induction l with
  | nil => simp [colW]
  | cons x l ih =>
    rw [colW, colW, colW, ih, wS_add]
    omega
theorem bookX_cons {l : List (List Int)} {m : Nat} (h : ∀ x ∈ l, x.length = m) : Cons (bookX l l.length m) := by
  intro S
  unfold bookX
  rw [outS_append, outS_append, outS_append, out_rows]
  have e1 : outS S ((List.range l.length).map (fun (i : Nat) => (⟨12, (i : Int), lineS l i⟩ : Am))) = allS l * indS S 12 - wS (fun j => indS S (j : Int)) 0 (l.map List.sum) := by
    have h1 := wS_range (fun j => indS S 12 - indS S (j : Int)) (l.map List.sum) 0
    rw [wS_add (fun _ => indS S 12) (fun j => indS S (j : Int)), wS_const] at h1
    unfold allS
    rw [← h1]
    unfold outS
    rw [List.map_map, List.length_map]
    refine congrArg List.sum (List.map_congr_left fun j hj => ?_)
    rw [List.mem_range] at hj
    simp only [Function.comp, outA_eq, Nat.zero_add]
    congr 1
    unfold lineS
    simp [List.getD, hj]
  have e2 : outS S ((List.range m).map (fun (k : Nat) => (⟨6 + (k : Int), 13, colS l k⟩ : Am))) = colW (fun j => indS S (6 + (j : Int))) l - allS l * indS S 13 := by
    have h1 := colW_range (fun j => indS S (6 + (j : Int)) - indS S 13) m l h
    rw [colW_sub (fun j => indS S (6 + (j : Int))) (fun _ => indS S 13), colW_const] at h1
    rw [← h1]
    unfold outS
    rw [List.map_map]
    refine congrArg List.sum (List.map_congr_left fun j _ => ?_)
    simp only [Function.comp, outA_eq]
  have e3 : outS S [⟨13, 12, allS l⟩] = allS l * indS S 13 - allS l * indS S 12 := by
    unfold outS
    simp only [List.map_cons, List.map_nil, List.sum_cons, List.sum_nil, outA_eq, Int.mul_sub]
    omega
  rw [e1, e2, e3]
  omega
theorem sum_rng {C : Int} : ∀ (xs : List Int) (n : Nat), (∀ x ∈ xs, 0 ≤ x ∧ x ≤ C) → xs.length ≤ n → 0 ≤ C → 0 ≤ xs.sum ∧ xs.sum ≤ (n : Int) * C
  | [], n, _, _, hC => ⟨by simp, by simpa using Int.mul_nonneg (by omega) hC⟩
  | x :: xs, n, h, hn, hC => by
    cases n with
    | zero => simp at hn
    | succ n =>
      have h1 := h x (by simp)
      have h2 := sum_rng xs n (fun y hy => h y (by simp [hy])) (by simpa using hn) hC
      rw [List.sum_cons, show ((n + 1 : Nat) : Int) = (n : Int) + 1 by omega, Int.add_mul, Int.one_mul]
      omega
/-- a table whose numbers are at most C -/
def Upto (C : Int) (l : List (List Int)) : Prop := ∀ x ∈ l, ∀ v ∈ x, 0 ≤ v ∧ v ≤ C
theorem getD_mem_or (l : List (List Int)) (i : Nat) : l.getD i [] ∈ l ∨ l.getD i [] = [] := by
  rw [List.getD_eq_getElem?_getD]
  cases h : l[i]? with
  | none => exact .inr rfl
  | some x => exact .inl (List.mem_of_getElem? h)
theorem lineS_rng {C : Int} {l : List (List Int)} (hu : Upto C l) (hC : 0 ≤ C) (h6 : ∀ x ∈ l, x.length ≤ 6) (i : Nat) : 0 ≤ lineS l i ∧ lineS l i ≤ 6 * C := by
  unfold lineS
  rcases getD_mem_or l i with h | h
  · exact sum_rng _ 6 (hu _ h) (h6 _ h) hC
  · rw [h]
    simp
    omega
theorem colS_rng {C : Int} {l : List (List Int)} (hu : Upto C l) (hC : 0 ≤ C) (h6 : l.length ≤ 6) (k : Nat) : 0 ≤ colS l k ∧ colS l k ≤ 6 * C := by
  unfold colS
  refine sum_rng _ 6 (fun v hv => ?_) (by simpa using h6) hC
  obtain ⟨x, hx, rfl⟩ := List.mem_map.1 hv
  rw [List.getD_eq_getElem?_getD]
  cases h : x[k]? with
  | none => simpa using hC
  | some v => exact hu x hx v (List.mem_of_getElem? h)
theorem allS_rng {C : Int} {l : List (List Int)} (hu : Upto C l) (hC : 0 ≤ C) (h6 : ∀ x ∈ l, x.length ≤ 6) (hl : l.length ≤ 6) : 0 ≤ allS l ∧ allS l ≤ 36 * C := by
  unfold allS
  have := sum_rng (C := 6 * C) (l.map List.sum) 6 (fun v hv => by
    obtain ⟨x, hx, rfl⟩ := List.mem_map.1 hv
    exact sum_rng x 6 (hu x hx) (h6 x hx) hC) (by simpa using hl) (by omega)
  omega
/-- every amount of a book is one of these -/
theorem bookX_all4 {l : List (List Int)} {m : Nat} (h : ∀ x ∈ l, x.length = m) (hm : 0 < m) {P : Am → Prop} (h1 : ∀ r k, r < l.length → k < m → P ⟨(r : Int), 6 + (k : Int), (l.getD r []).getD k 0⟩) (h2 : ∀ r, r < l.length → P ⟨12, (r : Int), lineS l r⟩) (h3 : ∀ k, k < m → P ⟨6 + (k : Int), 13, colS l k⟩) (h4 : P ⟨13, 12, allS l⟩) (j : Nat) (hj : j < (bookX l l.length m).length) : P (amAt (bookX l l.length m) j) := by
  rw [bookX_len h] at hj
  rcases index_cases hj hm with ⟨r, k, hr, hk, rfl⟩ | ⟨r, hr, rfl⟩ | ⟨k, hk, rfl⟩ | rfl
  · rw [bookX_cell h hr hk]; exact h1 r k hr hk
  · rw [bookX_line h hr]; exact h2 r hr
  · rw [bookX_col h hk]; exact h3 k hk
  · rw [bookX_all h]; exact h4
theorem cell_rng {C : Int} {l : List (List Int)} (hu : Upto C l) (hC : 0 ≤ C) (r k : Nat) : 0 ≤ (l.getD r []).getD k 0 ∧ (l.getD r []).getD k 0 ≤ C := by
  rcases getD_mem_or l r with h | h
  · rw [List.getD_eq_getElem?_getD (l := l.getD r [])]
    cases h2 : (l.getD r [])[k]? with
    | none => simpa using hC
    | some v => exact hu _ h v (List.mem_of_getElem? h2)
  · rw [h]
    simpa using hC
theorem Upto.small {C : Int} {l : List (List Int)} (hu : Upto C l) (hC : C ≤ 100000000) : ∀ x ∈ l, Small x := fun x hx v hv => by
  have := hu x hx v hv
  omega
theorem book_base {C den : Int} {l : List (List Int)} (ht : Tab l) (hu : Upto C l) (hC : 0 ≤ C) (hC2 : C ≤ 20000000) (h1 : 1 ≤ den) (h2 : den ≤ 1000) : Base (36 * C) den (bookAm l) := by
  have he := bookAm_eq ⟨ht, hu.small (by omega)⟩
  have h6 : ∀ x ∈ l, x.length ≤ 6 := fun x hx => by rw [ht.eq x hx]; exact ht.m6
  have hn6 := ht.n6
  have hm6 := ht.m6
  refine ⟨h1, h2, ht.ok, ?_, ?_, ?_⟩
  · rw [he]
    exact bookX_cons ht.eq
  · rw [he]
    refine bookX_all4 (P := fun a => a.fr ≠ a.tt) ht.eq ht.m0 (fun r k hr hk => ?_) (fun r hr => ?_) (fun k hk => ?_) ?_
    · show (r : Int) ≠ 6 + (k : Int); omega
    · show (12 : Int) ≠ (r : Int); omega
    · show 6 + (k : Int) ≠ 13; omega
    · show (13 : Int) ≠ 12; decide
  · rw [he]
    refine bookX_all4 (P := fun a => 0 ≤ a.pa ∧ a.pa ≤ 36 * C) ht.eq ht.m0 (fun r k hr hk => ?_) (fun r hr => ?_) (fun k hk => ?_) ?_
    · have := cell_rng hu hC r k
      show 0 ≤ (l.getD r []).getD k 0 ∧ (l.getD r []).getD k 0 ≤ 36 * C
      omega
    · have := lineS_rng hu hC h6 r
      show 0 ≤ lineS l r ∧ lineS l r ≤ 36 * C
      omega
    · have := colS_rng hu hC hn6 k
      show 0 ≤ colS l k ∧ colS l k ≤ 36 * C
      omega
    · exact allS_rng hu hC h6 hn6
end Go.Proofs.Ytcgdbjojjpoegaa.P

/- The coins of amounts that are whole are a rounding: plain law. -/
namespace Go.Proofs.Ytcgdbjojjpoegaa.P
open Go.RowKit Go.Proofs.YtcgdbjojjpoegaaW.PrintWords Go.Proofs.YtcgdbjojjpoegaaW.PrintLast Go.Proofs.YtcgdbjojjpoegaaW.PrintMore
set_option linter.unusedVariables false
set_option linter.unusedSimpArgs false

theorem sum_one (g : Nat → Int) : ∀ (n j0 : Nat), j0 < n → (∀ j, j < n → j ≠ j0 → g j = 0) → ((List.range n).map g).sum = g j0
  | 0, j0, h, _ => by omega
  | n + 1, j0, h, hz => by
    rw [List.range_succ, List.map_append, List.sum_append]
    simp only [List.map_cons, List.map_nil, List.sum_cons, List.sum_nil, Int.add_zero]
    by_cases e : j0 = n
    · subst e
      have h0 : ∀ m, m ≤ j0 → ((List.range m).map g).sum = 0 := by
        intro m
        induction m with
        | zero => intro _; rfl
        | succ m ih =>
          intro hm
          rw [List.range_succ, List.map_append, List.sum_append, ih (by omega)]
          simp [hz m (by omega) (by omega)]
      rw [h0 j0 (Nat.le_refl _)]
      omega
    · rw [sum_one g n j0 (by omega) (fun j hj hne => hz j (by omega) hne), hz n (by omega) (fun h => e h.symm)]
      omega
theorem outS_range (S : Int → Bool) (X : List Am) : outS S X = ((List.range X.length).map fun (j : Nat) => outA S (amAt X j)).sum := by
  unfold outS
  congr 1
  apply List.ext_getElem
  · simp
  · intro j h1 h2
    have hj : j < X.length := by simpa using h1
    rw [List.getElem_map, List.getElem_map, List.getElem_range, amAt_nat X j hj]
/-- Where two lots of amounts go round between the same places, and all but one are as great, that one is, too. -/
theorem one_left {den : Int} {X Y : List Am} (hX : Cons X) (hY : Cons Y) (ha : Alike Y X) (S : Int → Bool) (j0 : Nat) (h0 : j0 < Y.length)
    (h : ∀ j : Nat, j < Y.length → j ≠ j0 → (amAt X j).pa = den * (amAt Y j).pa ∨ indS S (amAt Y j).fr = indS S (amAt Y j).tt) (hd : indS S (amAt Y j0).fr ≠ indS S (amAt Y j0).tt) : (amAt X j0).pa = den * (amAt Y j0).pa := by
  have hx := hX S
  have hy := hY S
  rw [outS_range] at hx hy
  rw [ha.1] at hx
  have hs : ((List.range Y.length).map fun (j : Nat) => ((amAt X j).pa - den * (amAt Y j).pa) * (indS S (amAt Y j).fr - indS S (amAt Y j).tt)).sum = 0 := by
    have key : ∀ n, n ≤ Y.length → ((List.range n).map fun (j : Nat) => ((amAt X j).pa - den * (amAt Y j).pa) * (indS S (amAt Y j).fr - indS S (amAt Y j).tt)).sum = ((List.range n).map fun (j : Nat) => outA S (amAt X j)).sum - den * ((List.range n).map fun (j : Nat) => outA S (amAt Y j)).sum := by
      intro n
      induction n with
      | zero => intro _; simp
      | succ n ih =>
        intro hn
        have h1 := ha.2 n (by omega)
        rw [List.range_succ, List.map_append, List.map_append, List.map_append, List.sum_append, List.sum_append, List.sum_append, ih (by omega)]
        simp only [List.map_cons, List.map_nil, List.sum_cons, List.sum_nil, Int.add_zero]
        rw [outA_eq, outA_eq, h1.1, h1.2, Int.sub_mul, Int.mul_add, Int.mul_assoc]
        omega
    rw [key _ (Nat.le_refl _), hx, hy]
    simp
  rw [sum_one _ Y.length j0 h0 (fun j hj hne => by
    rcases h j hj hne with h1 | h1
    · rw [h1, Int.sub_self, Int.zero_mul]
    · rw [h1, Int.sub_self, Int.mul_zero])] at hs
  rcases Int.mul_eq_zero.1 hs with h1 | h1
  · omega
  · omega
theorem coinF_mul {den : Int} {am : List Am} {q : Nat} (h1 : 1 ≤ den) (h0 : 0 ≤ (amAt am q).pa) (h2 : (amAt am q).pa ≤ 900000000) (hb : brk den (amAt am q) = false) : den * coinF den am q = (amAt am q).pa ∧ 0 ≤ coinF den am q ∧ coinF den am q ≤ (amAt am q).pa := by
  have hd := brk_dvd.1 hb
  obtain ⟨c, hc⟩ := hd
  have hc0 : 0 ≤ c := by
    rcases Int.lt_or_le c 0 with h | h
    · have := Int.mul_neg_of_pos_of_neg (show 0 < den by omega) h
      omega
    · exact h
  have hcl : c ≤ den * c := by
    have := Int.mul_le_mul_of_nonneg_right h1 hc0
    omega
  have e : (amAt am q).pa.tdiv den = c := by
    rw [Int.tdiv_eq_ediv_of_nonneg h0, hc, Int.mul_ediv_cancel_left _ (by omega)]
  unfold coinF
  rw [e, wrap_id c (by omega) (by omega)]
  exact ⟨hc.symm, hc0, by omega⟩
theorem coinsL_len9 (den : Int) (am : List Am) (m n : Nat) : (coinsL den am m n).length = n := by simp [coinsL]
theorem coinsL_at {den : Int} {am : List Am} {m n r k : Nat} (hr : r < n) (hk : k < m) : ((coinsL den am m n).getD r []).getD k 0 = coinF den am (r * m + k) := by
  unfold coinsL coinsRow
  simp [List.getD, hr, hk]
theorem coinsL_row {den : Int} {am : List Am} {m n : Nat} {x : List Int} (h : x ∈ coinsL den am m n) : x.length = m ∧ ∀ v ∈ x, ∃ r k, r < n ∧ k < m ∧ v = coinF den am (r * m + k) := by
  unfold coinsL at h
  obtain ⟨r, hr, rfl⟩ := List.mem_map.1 h
  rw [List.mem_range] at hr
  refine ⟨by simp [coinsRow], fun v hv => ?_⟩
  unfold coinsRow at hv
  obtain ⟨k, hk, rfl⟩ := List.mem_map.1 hv
  rw [List.mem_range] at hk
  exact ⟨r, k, hr, hk, rfl⟩
theorem rd_L2_0 {l : List (List Int)} (h : 0 < l.length) : rd_L2 l 0 = l.getD 0 [] := by
  have := rd_L2_nat l 0 h
  rw [show ((0 : Nat) : Int) = 0 from rfl] at this
  rw [this]
  simp [List.getD, h]
/-- What is known of amounts that came of a table's book, and are whole. -/
structure Done (den : Int) (l : List (List Int)) (am : List Am) : Prop where
  t : Tab l
  u : Upto 1000000 l
  d1 : 1 ≤ den
  d2 : den ≤ 1000
  inv : Inv den (bookAm l) am
  whole : ∀ j : Nat, j < (bookAm l).length → brk den (amAt am j) = false
def coinsOf (den : Int) (l : List (List Int)) (am : List Am) : List (List Int) := coinsL den am (rd_L2 l 0).length l.length
theorem Done.base {den : Int} {l : List (List Int)} {am : List Am} (h : Done den l am) : Base 36000000 den (bookAm l) := by
  have := book_base h.t h.u (by omega) (by omega) h.d1 h.d2
  exact this
theorem Done.pa {den : Int} {l : List (List Int)} {am : List Am} (h : Done den l am) (j : Nat) (hj : j < (bookAm l).length) : 0 ≤ (amAt am j).pa ∧ (amAt am j).pa ≤ 36001000 := by
  have hb := h.inv.base h.base
  have := hb.p0 j (by rw [h.inv.al.1]; exact hj)
  omega
theorem Done.cell {den : Int} {l : List (List Int)} {am : List Am} (h : Done den l am) {r k : Nat} (hr : r < l.length) (hk : k < (rd_L2 l 0).length) : den * coinF den am (r * (rd_L2 l 0).length + k) = (amAt am ((r * (rd_L2 l 0).length + k : Nat) : Int)).pa ∧ 0 ≤ coinF den am (r * (rd_L2 l 0).length + k) ∧ coinF den am (r * (rd_L2 l 0).length + k) ≤ 1001000 := by
  have hlt : r * (rd_L2 l 0).length + k < (bookAm l).length := by
    rw [h.t.len]
    have : (r + 1) * (rd_L2 l 0).length ≤ l.length * (rd_L2 l 0).length := Nat.mul_le_mul_right _ hr
    rw [Nat.add_mul] at this
    omega
  have hp := h.pa _ hlt
  obtain ⟨h1, h2, h3⟩ := coinF_mul h.d1 hp.1 (by omega) (h.whole _ hlt)
  refine ⟨h1, h2, ?_⟩
  have hn := (h.inv.near _ hlt).rng h.d1 (by
    rw [bookAm_eq ⟨h.t, h.u.small (by omega)⟩, bookX_cell h.t.eq hr hk]
    exact (cell_rng h.u (by omega) r k).1)
  have hc := cell_rng h.u (by omega) r k
  rw [bookAm_eq ⟨h.t, h.u.small (by omega)⟩, bookX_cell h.t.eq hr hk] at hn
  simp only at hn
  have := h.d2
  omega
theorem Done.tab {den : Int} {l : List (List Int)} {am : List Am} (h : Done den l am) : Tab (coinsOf den l am) ∧ Upto 1001000 (coinsOf den l am) ∧ (coinsOf den l am).length = l.length ∧ (rd_L2 (coinsOf den l am) 0).length = (rd_L2 l 0).length := by
  have hn0 := h.t.n0
  have hlen : (coinsOf den l am).length = l.length := coinsL_len9 _ _ _ _
  have hrow : ∀ x ∈ coinsOf den l am, x.length = (rd_L2 l 0).length := fun x hx => (coinsL_row hx).1
  have h0 : (rd_L2 (coinsOf den l am) 0).length = (rd_L2 l 0).length := by
    rw [rd_L2_0 (by omega)]
    rcases getD_mem_or (coinsOf den l am) 0 with h1 | h1
    · exact hrow _ h1
    · have h2 : (coinsOf den l am).getD 0 [] ∈ coinsOf den l am := by
        rw [List.getD_eq_getElem?_getD, List.getElem?_eq_getElem (by omega)]
        exact List.getElem_mem _
      exact hrow _ h2
  refine ⟨⟨by omega, by rw [hlen]; exact h.t.n6, by rw [h0]; exact h.t.m0, by rw [h0]; exact h.t.m6, fun x hx => by rw [h0]; exact hrow x hx⟩, fun x hx v hv => ?_, hlen, h0⟩
  obtain ⟨r, k, hr, hk, rfl⟩ := (coinsL_row hx).2 v hv
  exact (h.cell hr hk).2
/-- The amounts are those of the coins' own book, in parts. -/
theorem Done.book {den : Int} {l : List (List Int)} {am : List Am} (h : Done den l am) (j : Nat) (hj : j < (bookAm l).length) : (amAt am j).pa = den * (amAt (bookAm (coinsOf den l am)) j).pa := by
  obtain ⟨ht, hu, hl, hm⟩ := h.tab
  have e1 := bookAm_eq ⟨h.t, h.u.small (by omega)⟩
  have e2 := bookAm_eq ⟨ht, hu.small (by omega)⟩
  have hn6 := h.t.n6
  have hm6 := h.t.m6
  have hm0 := h.t.m0
  rw [hl, hm] at e2
  have heq : ∀ x ∈ coinsOf den l am, x.length = (rd_L2 l 0).length := fun x hx => (coinsL_row hx).1
  have hconsY : Cons (bookAm (coinsOf den l am)) := (book_base ht hu (by omega) (by omega) h.d1 h.d2).cons
  have hlY : (bookAm (coinsOf den l am)).length = (bookAm l).length := by rw [ht.len, h.t.len, hl, hm]
  have hlen := h.t.len
  have bc : ∀ {r k : Nat}, r < l.length → k < (rd_L2 l 0).length → amAt (bookAm (coinsOf den l am)) ((r * (rd_L2 l 0).length + k : Nat) : Int) = ⟨(r : Int), 6 + (k : Int), ((coinsOf den l am).getD r []).getD k 0⟩ := by
    intro r k hr hk
    rw [e2]
    have := bookX_cell heq (show r < (coinsOf den l am).length by omega) hk
    rw [hl] at this
    exact this
  have bl : ∀ {r : Nat}, r < l.length → amAt (bookAm (coinsOf den l am)) ((l.length * (rd_L2 l 0).length + r : Nat) : Int) = ⟨12, (r : Int), lineS (coinsOf den l am) r⟩ := by
    intro r hr
    rw [e2]
    have := bookX_line heq (show r < (coinsOf den l am).length by omega)
    rw [hl] at this
    exact this
  have bk : ∀ {k : Nat}, k < (rd_L2 l 0).length → amAt (bookAm (coinsOf den l am)) ((l.length * (rd_L2 l 0).length + l.length + k : Nat) : Int) = ⟨6 + (k : Int), 13, colS (coinsOf den l am) k⟩ := by
    intro k hk
    rw [e2]
    have := bookX_col heq hk
    rw [hl] at this
    exact this
  have ba : amAt (bookAm (coinsOf den l am)) ((l.length * (rd_L2 l 0).length + l.length + (rd_L2 l 0).length : Nat) : Int) = ⟨13, 12, allS (coinsOf den l am)⟩ := by
    rw [e2]
    have := bookX_all heq
    rw [hl] at this
    exact this
  have hal : Alike (bookAm (coinsOf den l am)) am := by
    refine ⟨by rw [h.inv.al.1, hlY], fun k hk => ?_⟩
    rw [hlY] at hk
    rw [(h.inv.al.2 k hk).1, (h.inv.al.2 k hk).2]
    have hk' := hk
    rw [hlen] at hk'
    rcases index_cases hk' hm0 with ⟨r, c, hr, hc, rfl⟩ | ⟨r, hr, rfl⟩ | ⟨c, hc, rfl⟩ | rfl
    · rw [bc hr hc, e1, bookX_cell h.t.eq hr hc]; exact ⟨rfl, rfl⟩
    · rw [bl hr, e1, bookX_line h.t.eq hr]; exact ⟨rfl, rfl⟩
    · rw [bk hc, e1, bookX_col h.t.eq hc]; exact ⟨rfl, rfl⟩
    · rw [ba, e1, bookX_all h.t.eq]; exact ⟨rfl, rfl⟩
  have hcell : ∀ {r k : Nat}, r < l.length → k < (rd_L2 l 0).length → (amAt am ((r * (rd_L2 l 0).length + k : Nat) : Int)).pa = den * (amAt (bookAm (coinsOf den l am)) ((r * (rd_L2 l 0).length + k : Nat) : Int)).pa := by
    intro r k hr hk
    rw [bc hr hk]
    show _ = den * ((coinsOf den l am).getD r []).getD k 0
    unfold coinsOf
    rw [coinsL_at hr hk]
    exact (h.cell hr hk).1.symm
  have hline : ∀ {r : Nat}, r < l.length → (amAt am ((l.length * (rd_L2 l 0).length + r : Nat) : Int)).pa = den * (amAt (bookAm (coinsOf den l am)) ((l.length * (rd_L2 l 0).length + r : Nat) : Int)).pa := by
    intro r0 hr0
    refine one_left h.inv.cons hconsY hal (fun q => decide (q = (r0 : Int))) _ (by omega) (fun j hj hne => ?_) ?_
    · have hj' := hj
      rw [hlY, hlen] at hj'
      rcases index_cases hj' hm0 with ⟨r, c, hr, hc, rfl⟩ | ⟨r, hr, rfl⟩ | ⟨c, hc, rfl⟩ | rfl
      · exact .inl (hcell hr hc)
      · right
        rw [bl hr]
        simp only [indS, decide_eq_true_eq]
        rw [if_neg (by omega), if_neg (by omega)]
      · right
        rw [bk hc]
        simp only [indS, decide_eq_true_eq]
        rw [if_neg (by omega), if_neg (by omega)]
      · right
        rw [ba]
        simp only [indS, decide_eq_true_eq]
        rw [if_neg (by omega), if_neg (by omega)]
    · rw [bl hr0]
      simp only [indS, decide_eq_true_eq]
      rw [if_neg (by omega), if_pos trivial]
      decide
  have hcol : ∀ {k : Nat}, k < (rd_L2 l 0).length → (amAt am ((l.length * (rd_L2 l 0).length + l.length + k : Nat) : Int)).pa = den * (amAt (bookAm (coinsOf den l am)) ((l.length * (rd_L2 l 0).length + l.length + k : Nat) : Int)).pa := by
    intro k0 hk0
    refine one_left h.inv.cons hconsY hal (fun q => decide (q = 6 + (k0 : Int))) _ (by omega) (fun j hj hne => ?_) ?_
    · have hj' := hj
      rw [hlY, hlen] at hj'
      rcases index_cases hj' hm0 with ⟨r, c, hr, hc, rfl⟩ | ⟨r, hr, rfl⟩ | ⟨c, hc, rfl⟩ | rfl
      · exact .inl (hcell hr hc)
      · exact .inl (hline hr)
      · right
        rw [bk hc]
        simp only [indS, decide_eq_true_eq]
        rw [if_neg (by omega), if_neg (by omega)]
      · right
        rw [ba]
        simp only [indS, decide_eq_true_eq]
        rw [if_neg (by omega), if_neg (by omega)]
    · rw [bk hk0]
      simp only [indS, decide_eq_true_eq]
      rw [if_pos trivial, if_neg (by omega)]
      decide
  have hjl := hj
  rw [hlen] at hjl
  rcases index_cases hjl hm0 with ⟨r, c, hr, hc, rfl⟩ | ⟨r, hr, rfl⟩ | ⟨c, hc, rfl⟩ | rfl
  · exact hcell hr hc
  · exact hline hr
  · exact hcol hc
  · refine one_left h.inv.cons hconsY hal (fun q => decide (q = 13)) _ (by omega) (fun j hj hne => ?_) ?_
    · have hj' := hj
      rw [hlY, hlen] at hj'
      rcases index_cases hj' hm0 with ⟨r, c, hr, hc, rfl⟩ | ⟨r, hr, rfl⟩ | ⟨c, hc, rfl⟩ | rfl
      · exact .inl (hcell hr hc)
      · exact .inl (hline hr)
      · exact .inl (hcol hc)
      · exact absurd rfl hne
    · rw [ba]
      simp only [indS, decide_eq_true_eq]
      rw [if_pos trivial, if_neg (by omega)]
      decide
end Go.Proofs.Ytcgdbjojjpoegaa.P

/- What the document's functions on tables and roundings are: plain law. -/
namespace Go.Proofs.Ytcgdbjojjpoegaa.P
open Go.RowKit Go.Proofs.YtcgdbjojjpoegaaW.PrintWords Go.Proofs.YtcgdbjojjpoegaaW.PrintLast Go.Proofs.YtcgdbjojjpoegaaW.PrintMore
set_option linter.unusedVariables false
set_option linter.unusedSimpArgs false

theorem wrapS (i : Nat) (h : i ≤ 1000000000) : wrap64 ((i : Int) + 1) = ((i + 1 : Nat) : Int) := by
  rw [wrap_id _ (by omega) (by omega)]
  omega
def badV (v : Int) : Bool := decide (v < 0) || decide (1000000 < v)
theorem badLine_any (x : List Int) : badLine x = x.any badV := by
  unfold badLine
  rw [← withinB_eq, Bool.not_not]
  rfl
theorem rd_getD (x : List Int) (j : Nat) : rd x (j : Int) = x.getD j 0 := by
  rcases Nat.lt_or_ge j x.length with h | h
  · rw [rd_nat x j h]
    simp [List.getD, h]
  · unfold rd
    rw [Int.toNat_natCast]
theorem ct_cells (den : Int) (l : List (List Int)) (hl : l.length ≤ 6) (hr : ∀ x ∈ l, x.length ≤ 6) : ∀ k : Nat,
    (∀ i : Nat, i ≤ l.length → (l.length - i) * 10 + 5 ≤ k → forecourtref09_CheckTable.l1 k (i : Int) den l = some (if (l.drop i).any badLine = true then 3 else 0)) ∧
    (∀ i j : Nat, (hi : i < l.length) → j ≤ l[i].length → (l.length - i) * 10 + 4 ≤ k + j → forecourtref09_CheckTable.l2 k (i : Int) (j : Int) den l = some (if ((l[i].drop j).any badV || (l.drop (i + 1)).any badLine) = true then 3 else 0)) := by
  intro k
  induction k with
  | zero =>
    refine ⟨fun i hi hk => by omega, fun i j hi hj hk => ?_⟩
    have := hr l[i] (List.getElem_mem hi)
    omega
  | succ k ih =>
    refine ⟨fun i hi hk => ?_, fun i j hi hj hk => ?_⟩
    · rw [forecourtref09_CheckTable.l1]
      by_cases hlt : i < l.length
      · have h2 : forecourtref09_CheckTable.l2 k (i : Int) 0 den l = some (if ((l[i].drop 0).any badV || (l.drop (i + 1)).any badLine) = true then 3 else 0) := ih.2 i 0 hlt (Nat.zero_le _) (by omega)
        rw [if_pos (by omega), h2, List.drop_zero, List.drop_eq_getElem_cons hlt, List.any_cons, badLine_any]
      · rw [if_neg (by omega), List.drop_of_length_le (by omega)]
        rfl
    · have h6 := hr l[i] (List.getElem_mem hi)
      rw [forecourtref09_CheckTable.l2, if_pos (by omega), if_pos (by omega), rd_L2_nat l i hi]
      by_cases hlt : j < l[i].length
      · have h2 := ih.2 i (j + 1) hi (by omega) (by omega)
        rw [if_pos (by omega), if_pos (by omega), rd_nat _ j hlt, wrapS j (by omega), h2, List.drop_eq_getElem_cons hlt, List.any_cons]
        unfold badV
        by_cases h3 : l[i][j] < 0
        · rw [if_pos h3]
          simp [h3]
        · rw [if_neg h3]
          by_cases h4 : l[i][j] > 1000000
          · rw [if_pos h4]
            simp [show 1000000 < l[i][j] from h4]
          · rw [if_neg h4]
            simp [h3, show ¬ 1000000 < l[i][j] from h4]
      · have h2 := ih.1 (i + 1) (by omega) (by omega)
        rw [if_neg (by omega), wrapS i (by omega), h2, show l[i].drop j = [] from List.drop_of_length_le (by omega)]
        simp
theorem ct_l0 (den : Int) (l : List (List Int)) (hl0 : 0 < l.length) (hl : l.length ≤ 6) (hm : (rd_L2 l 0).length ≤ 6) : ∀ (k i : Nat), i ≤ l.length → (l.length - i) + 100 ≤ k → (∀ j, (hj : j < i) → (hl' : j < l.length) → l[j].length = (rd_L2 l 0).length) →
    forecourtref09_CheckTable.l0 k (i : Int) den l = some (if (l.drop i).any (oddLine (rd_L2 l 0).length) = true then 15 else if !withinB 1 1000 [den] then 2 else if l.any badLine then 3 else 0)
  | 0, i => fun hi hk _ => by omega
  | k + 1, i => fun hi hk hp => by
    rw [forecourtref09_CheckTable.l0]
    by_cases hlt : i < l.length
    · rw [if_pos (by omega), if_pos (by omega), if_pos (by omega), rd_L2_nat l i hlt, List.drop_eq_getElem_cons hlt, List.any_cons]
      unfold oddLine
      by_cases he : l[i].length = (rd_L2 l 0).length
      · have ih := ct_l0 den l hl0 hl hm k (i + 1) (by omega) (by omega) (fun j hj hl' => by
          by_cases e : j = i
          · subst e; exact he
          · exact hp j (by omega) hl')
        rw [if_pos (by omega), wrapS i (by omega), ih]
        unfold oddLine
        simp [he]
      · rw [if_neg (by omega)]
        have : ((l[i].length : Int) != ((rd_L2 l 0).length : Int)) = true := bne_iff_ne.mpr (by omega)
        rw [this]
        rfl
    · have hall : ∀ x ∈ l, x.length ≤ 6 := by
        intro x hx
        obtain ⟨j, hj, rfl⟩ := List.mem_iff_getElem.1 hx
        rw [hp j (by omega) hj]
        exact hm
      rw [if_neg (by omega), List.drop_of_length_le (by omega)]
      obtain ⟨k, rfl⟩ : ∃ j, k = j + 1 := ⟨k - 1, by omega⟩
      have h1 := (ct_cells den l hl hall k).1 0 (by omega) (by omega)
      rw [List.drop_zero] at h1
      have h2 : withinB 1 1000 [den] = (decide (1 ≤ den) && decide (den ≤ 1000)) := by
        rw [← withinB_eq]
        by_cases a : 1 ≤ den <;> by_cases b : den ≤ 1000 <;> simp [a, b] <;> omega
      by_cases h3 : den < 1
      · rw [if_pos h3, forecourtref09_CheckTable.j2, if_pos rfl, h2, decide_eq_false (show ¬ 1 ≤ den by omega)]
        rfl
      · rw [if_neg h3, forecourtref09_CheckTable.j2, h2, decide_eq_true (show 1 ≤ den by omega)]
        by_cases h4 : den > 1000
        · rw [decide_eq_true h4, if_pos rfl, decide_eq_false (show ¬ den ≤ 1000 by omega)]
          rfl
        · rw [decide_eq_false h4, if_neg (by decide), decide_eq_true (show den ≤ 1000 by omega)]
          exact h1
theorem refCT (den : Int) (l : List (List Int)) (k : Nat) (hk : 200 ≤ k) : forecourtref09_CheckTable.f k den l = some (tableE den l) := by
  obtain ⟨k, rfl⟩ : ∃ j, k = j + 1 := ⟨k - 1, by omega⟩
  unfold forecourtref09_CheckTable.f tableE
  by_cases h1 : (l.length : Int) < 1
  · rw [if_pos h1, forecourtref09_CheckTable.j0, if_pos rfl, if_pos (.inl (by omega))]
  · rw [if_neg h1]
    by_cases h2 : (l.length : Int) > 6
    · rw [if_pos h2, forecourtref09_CheckTable.j0, if_pos rfl, if_pos (.inr (.inl (by omega)))]
    · rw [if_neg h2, if_pos (by omega)]
      by_cases h3 : ((rd_L2 l 0).length : Int) < 1
      · rw [if_pos h3, forecourtref09_CheckTable.j0, if_pos rfl, if_pos (.inr (.inr (.inl (by omega))))]
      · rw [if_neg h3, forecourtref09_CheckTable.j0]
        by_cases h4 : ((rd_L2 l 0).length : Int) > 6
        · rw [decide_eq_true h4, if_pos rfl, if_pos (.inr (.inr (.inr (by omega))))]
        · rw [decide_eq_false h4, if_neg (by decide), if_neg (by omega)]
          have h := ct_l0 den l (by omega) (by omega) (by omega) k 0 (by omega) (by omega) (fun j hj => by omega)
          rw [List.drop_zero] at h
          exact h
def shapedB (l coins : List (List Int)) : Bool := decide (coins.length = l.length) && !coins.any (oddLine (rd_L2 l 0).length)
theorem shaped_l0 (den : Int) (l coins : List (List Int)) (hl : 0 < l.length) (hc : coins.length ≤ 1000) : ∀ (k i : Nat), i ≤ coins.length → (coins.length - i) + 1 ≤ k → forecourtref09_Shaped.l0 k coins (i : Int) den l = some (!(coins.drop i).any (oddLine (rd_L2 l 0).length))
  | 0, i => fun hi hk => by omega
  | k + 1, i => fun hi hk => by
    rw [forecourtref09_Shaped.l0]
    by_cases hlt : i < coins.length
    · rw [if_pos (by omega), if_pos (by omega), if_pos (by omega), rd_L2_nat coins i hlt, List.drop_eq_getElem_cons hlt, List.any_cons]
      by_cases he : coins[i].length = (rd_L2 l 0).length
      · rw [if_pos (by omega), wrapS i (by omega), shaped_l0 den l coins hl hc k (i + 1) (by omega) (by omega)]
        unfold oddLine
        simp [he]
      · have : oddLine (rd_L2 l 0).length coins[i] = true := bne_iff_ne.mpr (by omega)
        rw [if_neg (by omega), this]
        rfl
    · rw [if_neg (by omega), List.drop_of_length_le (by omega)]
      rfl
theorem refShaped (den : Int) (l coins : List (List Int)) (hl : 0 < l.length) (hl6 : l.length ≤ 6) (k : Nat) (hk : 100 ≤ k) : forecourtref09_Shaped.f k den l coins = some (shapedB l coins) := by
  unfold forecourtref09_Shaped.f shapedB
  by_cases h : coins.length = l.length
  · rw [if_pos (by omega), decide_eq_true h]
    have := shaped_l0 den l coins hl (by omega) k 0 (by omega) (by omega)
    rw [List.drop_zero] at this
    rw [Bool.true_and]
    exact this
  · rw [if_neg (by omega), decide_eq_false h]
    rfl
/-- the document's sums, beside the book's -/
structure SR (n m : Nat) (s : Bs) (out : List Int) (all : Int) (ls cs : List Int) : Prop where
  am : s.am.map (·.pa) = out
  of : s.of = ls ++ cs
  nl : ls.length = n
  nc : cs.length = m
  all : s.all = all
theorem SR.step {n m : Nat} {s : Bs} {out : List Int} {all : Int} {ls cs : List Int} (h : SR n m s out all ls cs) {i k : Nat} (hi : i < n) (hk : k < m) (x : Int) :
    SR n m (stepB n i k x s) (out ++ [x]) (wrap64 (all + x)) (ls.set i (wrap64 (ls.getD i 0 + x))) (cs.set k (wrap64 (cs.getD k 0 + x))) := by
  have hnl := h.nl
  have hnc := h.nc
  have g1 : (ls ++ cs).getD i 0 = ls.getD i 0 := by
    rw [List.getD_eq_getElem?_getD, List.getElem?_append_left (by omega), List.getD_eq_getElem?_getD]
  have g2 : ∀ ls' : List Int, ls'.length = n → (ls' ++ cs).getD (n + k) 0 = cs.getD k 0 := by
    intro ls' e
    rw [List.getD_eq_getElem?_getD, List.getElem?_append_right (by omega), e, show n + k - n = k by omega, List.getD_eq_getElem?_getD]
  refine ⟨?_, ?_, by simp [hnl], by simp [hnc], ?_⟩
  · unfold stepB
    simp [h.am]
  · unfold stepB
    simp only
    rw [h.of, g1, List.set_append_left _ _ (by omega), g2 _ (by simp [hnl]), List.set_append_right _ _ (by rw [List.length_set]; omega), List.length_set, hnl, show n + k - n = k by omega]
  · unfold stepB
    simp [h.all]
theorem sums_go (l : List (List Int)) (m : Nat) (hl : l.length ≤ 6) (hm : m ≤ 6) (hr : ∀ x ∈ l, x.length = m) : ∀ k : Nat,
    (∀ (i : Nat) (s : Bs) (out : List Int) (all : Int) (ls cs : List Int), SR l.length m s out all ls cs → i ≤ l.length → out.length = i * m → (l.length - i) * 10 + 5 ≤ k → forecourtref09_Sums.l0 k l out all ls cs (i : Int) = some ((endB l.length m (linesB l.length i (l.drop i) s)).map (·.pa))) ∧
    (∀ (i j : Nat) (s : Bs) (out : List Int) (all : Int) (ls cs : List Int), SR l.length m s out all ls cs → (hi : i < l.length) → j ≤ m → out.length = i * m + j → (l.length - i) * 10 + 4 ≤ k + j → forecourtref09_Sums.l1 k l out all ls cs (i : Int) (j : Int) = some ((endB l.length m (linesB l.length (i + 1) (l.drop (i + 1)) (lineB l.length i j (l[i].drop j) s))).map (·.pa))) := by
  intro k
  induction k with
  | zero => exact ⟨fun i s out all ls cs _ hi _ hk => by omega, fun i j s out all ls cs _ hi hj _ hk => by omega⟩
  | succ k ih =>
    have hbnd : ∀ i, i ≤ l.length → i * m ≤ 36 := fun i hi => Nat.mul_le_mul (Nat.le_trans hi hl) hm
    refine ⟨fun i s out all ls cs h hi ho hk => ?_, fun i j s out all ls cs h hi hj ho hk => ?_⟩
    · have hb := hbnd i hi
      rw [forecourtref09_Sums.l0]
      by_cases hlt : i < l.length
      · have h2 : forecourtref09_Sums.l1 k l out all ls cs (i : Int) 0 = _ := ih.2 i 0 s out all ls cs h hlt (Nat.zero_le _) (by omega) (by omega)
        rw [if_pos (by omega), h2, List.drop_zero, List.drop_eq_getElem_cons hlt, linesB]
      · have hnl := h.nl
        have hnc := h.nc
        rw [if_neg (by omega), if_pos (by omega), Option.bind_some, if_pos (by rw [List.length_append]; omega), Option.bind_some, if_pos (by rw [List.length_append, List.length_append]; omega), List.drop_of_length_le (by omega), linesB]
        unfold endB sumsL sumsC
        rw [List.map_append, List.map_append, List.map_append, h.am, List.map_map, List.map_map, h.of]
        have e1 : (List.range l.length).map ((·.pa) ∘ fun (i : Nat) => (⟨12, (i : Int), (ls ++ cs).getD i 0⟩ : Am)) = ls := by
          apply List.ext_getElem
          · simp [hnl]
          · intro q h1 h2
            simp [List.getD, List.getElem?_append_left h2, h2]
        have e2 : (List.range m).map ((·.pa) ∘ fun (k : Nat) => (⟨6 + (k : Int), 13, (ls ++ cs).getD (l.length + k) 0⟩ : Am)) = cs := by
          apply List.ext_getElem
          · simp [hnc]
          · intro q h1 h2
            simp [List.getD, List.getElem?_append_right (show ls.length ≤ l.length + q by omega), hnl, h2]
        rw [e1, e2]
        simp [h.all]
    · have hxm := hr l[i] (List.getElem_mem hi)
      have hb := hbnd i (by omega)
      rw [forecourtref09_Sums.l1, if_pos (by omega), if_pos (by omega), rd_L2_nat l i hi]
      by_cases hlt : j < l[i].length
      · have hnl := h.nl
        have hnc := h.nc
        have h2 := ih.2 i (j + 1) _ _ _ _ _ (h.step (i := i) (k := j) hi (by omega) l[i][j]) hi (by omega) (by rw [List.length_append]; simp; omega) (by omega)
        rw [if_pos (by omega), if_pos (by omega), if_pos (by omega), if_pos (by omega), if_pos (by omega), rd_nat _ j hlt, rd_getD, rd_getD, Int.toNat_natCast, Int.toNat_natCast, wrapS j (by omega), h2, List.drop_eq_getElem_cons hlt, lineB]
      · have h2 := ih.1 (i + 1) s out all ls cs h (by omega) (by rw [ho, Nat.add_mul]; omega) (by omega)
        rw [if_neg (by omega), wrapS i (by omega), h2, show l[i].drop j = [] from List.drop_of_length_le (by omega), lineB]
theorem refSums {l : List (List Int)} (h : Tab l) (k : Nat) (hk : 200 ≤ k) : forecourtref09_Sums.f k l = some ((bookAm l).map (·.pa)) := by
  have hn6 := h.n6
  have hm6 := h.m6
  have hn0 := h.n0
  unfold forecourtref09_Sums.f
  rw [if_pos (by omega), if_pos (by omega), if_pos (by omega), if_pos (by omega), if_pos (by omega), Int.toNat_natCast, Int.toNat_natCast]
  have := (sums_go l _ hn6 hm6 h.eq k).1 0 ⟨[], List.replicate (l.length + (rd_L2 l 0).length) 0, 0⟩ [] 0 (List.replicate l.length 0) (List.replicate (rd_L2 l 0).length 0) ⟨rfl, by simp, by simp, by simp, rfl⟩ (by omega) (by simp) (by omega)
  rw [List.drop_zero] at this
  exact this
end Go.Proofs.Ytcgdbjojjpoegaa.P

/- Roundings: the program's check is the document's, and what is returned is a rounding: plain law. -/
namespace Go.Proofs.Ytcgdbjojjpoegaa.P
open Go.RowKit Go.Proofs.YtcgdbjojjpoegaaW.PrintWords Go.Proofs.YtcgdbjojjpoegaaW.PrintLast Go.Proofs.YtcgdbjojjpoegaaW.PrintMore
set_option linter.unusedVariables false
set_option linter.unusedSimpArgs false

def badC (v : Int) : Bool := decide (v < 0) || decide (36000000 < v)
/-- the amounts of a book, without their places -/
def pas (l : List (List Int)) : List Int := (bookAm l).map (·.pa)
/-- what the document's CheckRounding answers -/
def refRE (den : Int) (l coins : List (List Int)) : Int :=
  if tableE den l ≠ 0 then tableE den l else if shapedB l coins = false then 15 else if coins.any (fun x => x.any badC) = true then 16 else if nearRow den (pas l) (pas coins) = true then 0 else 16
theorem cr_l2 (den : Int) (l : List (List Int)) (hd : den ≠ 0) (a b : List Int) (hab : b.length = a.length) (ha : a.length ≤ 1000) : ∀ (k j : Nat), j ≤ a.length → (a.length - j) + 1 ≤ k → forecourtref09_CheckRounding.l2 k a b (j : Int) den l = some (if nearRow den (a.drop j) (b.drop j) = true then 0 else 16)
  | 0, j => fun hj hk => by omega
  | k + 1, j => fun hj hk => by
    rw [forecourtref09_CheckRounding.l2]
    by_cases hlt : j < a.length
    · have hlb : j < b.length := by omega
      rw [if_pos (by omega), if_pos (by omega), if_pos (by omega), if_neg hd, rd_nat a j hlt, rd_nat b j hlb, wrapS j (by omega), cr_l2 den l hd a b hab ha k (j + 1) (by omega) (by omega), List.drop_eq_getElem_cons hlt, List.drop_eq_getElem_cons hlb, nearRow]
      unfold nearB
      by_cases h1 : b[j] = wrap64 (a[j].tdiv den)
      · rw [if_pos h1]
        simp [h1]
      · rw [if_neg h1]
        by_cases h2 : b[j] = wrap64 ((wrap64 (wrap64 (a[j] + den) - 1)).tdiv den)
        · rw [if_pos h2]
          simp [h2]
        · rw [if_neg h2]
          simp [h1, h2]
    · rw [if_neg (by omega), List.drop_of_length_le (by omega)]
      rfl
theorem Tab.coins {l coins : List (List Int)} (h : Tab l) (hs : shapedB l coins = true) : Tab coins ∧ coins.length = l.length ∧ (rd_L2 coins 0).length = (rd_L2 l 0).length ∧ ∀ x ∈ coins, x.length = (rd_L2 l 0).length := by
  unfold shapedB at hs
  rw [Bool.and_eq_true] at hs
  have h1 := of_decide_eq_true hs.1
  have h2 : ∀ x ∈ coins, x.length = (rd_L2 l 0).length := by
    intro x hx
    have := hs.2
    rw [Bool.not_eq_true', List.any_eq_false] at this
    have := this x hx
    unfold oddLine at this
    simp at this
    omega
  have hn0 := h.n0
  have h3 : (rd_L2 coins 0).length = (rd_L2 l 0).length := by
    rw [rd_L2_0 (by omega)]
    have h4 : coins.getD 0 [] ∈ coins := by
      rw [List.getD_eq_getElem?_getD, List.getElem?_eq_getElem (by omega)]
      exact List.getElem_mem _
    exact h2 _ h4
  exact ⟨⟨by omega, by rw [h1]; exact h.n6, by rw [h3]; exact h.m0, by rw [h3]; exact h.m6, fun x hx => by rw [h3]; exact h2 x hx⟩, h1, h3, h2⟩
theorem cr_go (den : Int) (l coins : List (List Int)) (hd : den ≠ 0) (ht : Tab l) (hs : shapedB l coins = true) : ∀ k : Nat,
    (∀ i : Nat, i ≤ coins.length → (coins.length - i) * 10 + 505 ≤ k → forecourtref09_CheckRounding.l0 k coins (i : Int) den l = some (if (coins.drop i).any (fun x => x.any badC) = true then 16 else if nearRow den (pas l) (pas coins) = true then 0 else 16)) ∧
    (∀ i j : Nat, (hi : i < coins.length) → j ≤ coins[i].length → (coins.length - i) * 10 + 504 ≤ k + j → forecourtref09_CheckRounding.l1 k coins (i : Int) (j : Int) den l = some (if ((coins[i].drop j).any badC || (coins.drop (i + 1)).any (fun x => x.any badC)) = true then 16 else if nearRow den (pas l) (pas coins) = true then 0 else 16)) := by
  obtain ⟨htc, hcl, hcm, hrow⟩ := ht.coins hs
  have hn6 := ht.n6
  have hm6 := ht.m6
  intro k
  induction k with
  | zero =>
    refine ⟨fun i hi hk => by omega, fun i j hi hj hk => ?_⟩
    have := hrow coins[i] (List.getElem_mem hi)
    omega
  | succ k ih =>
    refine ⟨fun i hi hk => ?_, fun i j hi hj hk => ?_⟩
    · rw [forecourtref09_CheckRounding.l0]
      by_cases hlt : i < coins.length
      · have h2 : forecourtref09_CheckRounding.l1 k coins (i : Int) 0 den l = _ := ih.2 i 0 hlt (Nat.zero_le _) (by omega)
        rw [if_pos (by omega), h2, List.drop_zero, List.drop_eq_getElem_cons hlt, List.any_cons]
      · have e1 : (pas l).length = (bookAm l).length := by simp [pas]
        have e2 : (pas coins).length = (bookAm coins).length := by simp [pas]
        have e3 := ht.le100
        have h2 : forecourtref09_CheckRounding.l2 k (pas l) (pas coins) 0 den l = _ := cr_l2 den l hd (pas l) (pas coins) (by rw [e1, e2, ht.len, htc.len, hcl, hcm]) (by omega) k 0 (by omega) (by omega)
        rw [if_neg (by omega), refSums ht k (by omega), refSums htc k (by omega), Option.bind_some, Option.bind_some, List.drop_of_length_le (by omega)]
        rw [List.drop_zero, List.drop_zero] at h2
        exact h2
    · have h6 := hrow coins[i] (List.getElem_mem hi)
      rw [forecourtref09_CheckRounding.l1, if_pos (by omega), if_pos (by omega), rd_L2_nat coins i hi]
      by_cases hlt : j < coins[i].length
      · have h2 := ih.2 i (j + 1) hi (by omega) (by omega)
        rw [if_pos (by omega), if_pos (by omega), rd_nat _ j hlt, wrapS j (by omega), h2, List.drop_eq_getElem_cons hlt, List.any_cons]
        by_cases h3 : coins[i][j] < 0
        · have : badC coins[i][j] = true := by unfold badC; simp [h3]
          rw [if_pos h3, this]
          rfl
        · rw [if_neg h3]
          by_cases h4 : coins[i][j] > 36000000
          · have : badC coins[i][j] = true := by unfold badC; simp [show 36000000 < coins[i][j] from h4]
            rw [if_pos h4, this]
            rfl
          · have : badC coins[i][j] = false := by unfold badC; simp [h3, show ¬ 36000000 < coins[i][j] from h4]
            rw [if_neg h4, this, Bool.false_or]
      · have h2 := ih.1 (i + 1) (by omega) (by omega)
        rw [if_neg (by omega), wrapS i (by omega), h2, show coins[i].drop j = [] from List.drop_of_length_le (by omega)]
        simp
theorem refCR (den : Int) (l coins : List (List Int)) (k : Nat) (hk : 1000 ≤ k) : forecourtref09_CheckRounding.f k den l coins = some (refRE den l coins) := by
  unfold forecourtref09_CheckRounding.f refRE
  rw [refCT den l k (by omega), Option.bind_some]
  by_cases h : tableE den l = 0
  · have hv := Valid.of h
    rw [if_pos h, if_neg (by simp [h]), refShaped den l coins hv.n0 hv.n6 k (by omega), Option.bind_some]
    cases hs : shapedB l coins with
    | false => simp
    | true =>
      have hc := (hv.tab.coins hs).2.1
      have := (cr_go den l coins (by have := hv.d1; omega) hv.tab hs k).1 0 (by omega) (by have := hv.n6; omega)
      rw [List.drop_zero] at this
      rw [if_pos rfl, if_neg (by decide)]
      exact this
  · rw [if_neg h, if_pos h, Option.bind_some]
theorem tableE_upto {den : Int} {l : List (List Int)} (h : tableE den l = 0) : Upto 1000000 l := by
  unfold tableE at h
  split at h
  · omega
  · split at h
    · omega
    · split at h
      · omega
      · split at h
        · omega
        · rename_i h4
          intro x hx v hv
          have h5 : l.any badLine = false := by simpa using h4
          rw [List.any_eq_false] at h5
          have h6 := h5 x hx
          rw [badLine_any] at h6
          have h7 : x.any badV = false := by simpa using h6
          rw [List.any_eq_false] at h7
          have h8 := h7 v hv
          unfold badV at h8
          simp at h8
          exact h8
theorem near_iff {den part c : Int} (h1 : 1 ≤ den) (h2 : den ≤ 1000) (h3 : 0 ≤ part) (h4 : part ≤ 1000000000) : nearB den part c = true ↔ Near den part (den * c) := by
  have hf := flo_le (a := part) h1
  have e1 : wrap64 (part.tdiv den) = part / den := by
    have h5 : part / den ≤ part := Int.ediv_le_self _ h3
    have h6 : 0 ≤ part / den := Int.ediv_nonneg h3 (by omega)
    rw [Int.tdiv_eq_ediv_of_nonneg h3, wrap_id _ (by omega) (by omega)]
  have e2 : wrap64 ((wrap64 (wrap64 (part + den) - 1)).tdiv den) = (part + den - 1) / den := by
    have h5 : (part + den - 1) / den ≤ part + den - 1 := Int.ediv_le_self _ (by omega)
    have h6 : 0 ≤ (part + den - 1) / den := Int.ediv_nonneg (by omega) (by omega)
    rw [wrap_id (part + den) (by omega) (by omega), wrap_id (part + den - 1) (by omega) (by omega), Int.tdiv_eq_ediv_of_nonneg (by omega), wrap_id _ (by omega) (by omega)]
  have hq : flo den part = den * (part / den) := rfl
  have e3 : (part + den - 1) / den = if den ∣ part then part / den else part / den + 1 := by
    split
    · rename_i hd
      have h5 := flo_dvd hd
      rw [show part + den - 1 = (den - 1) + den * (part / den) by rw [← hq, h5]; omega, Int.add_mul_ediv_left _ _ (by omega), Int.ediv_eq_zero_of_lt (by omega) (by omega)]
      omega
    · rename_i hd
      have h5 : flo den part ≠ part := fun e => hd (by rw [← e]; exact Int.dvd_mul_right _ _)
      rw [show part + den - 1 = (part - flo den part - 1) + den * (part / den + 1) by rw [Int.mul_add, ← hq]; omega, Int.add_mul_ediv_left _ _ (by omega), Int.ediv_eq_zero_of_lt (by omega) (by omega)]
      omega
  unfold nearB
  rw [e1, e2, e3, Bool.or_eq_true, beq_iff_eq, beq_iff_eq]
  unfold Near cei
  rw [hq]
  by_cases hd : den ∣ part
  · rw [if_pos hd, if_pos hd]
    have h5 := flo_dvd hd
    rw [hq] at h5
    constructor
    · rintro (e | e) <;> rw [e] <;> omega
    · rintro ⟨a, b⟩
      left
      have : den * c = den * (part / den) := by omega
      exact Int.eq_of_mul_eq_mul_left (by omega) this
  · rw [if_neg hd, if_neg hd]
    constructor
    · rintro (e | e)
      · rw [e]; omega
      · rw [e, Int.mul_add]; omega
    · rintro ⟨a, b⟩
      have a' := Int.le_of_mul_le_mul_left a (by omega)
      have b' : c ≤ part / den + 1 := Int.le_of_mul_le_mul_left (a := den) (by rw [Int.mul_add, Int.mul_one]; exact b) (by omega)
      omega
theorem nearRow_get {den : Int} : ∀ (a b : List Int), b.length = a.length → (nearRow den a b = true ↔ ∀ j (h : j < a.length) (h' : j < b.length), nearB den a[j] b[j] = true)
  | [], [], _ => by simp [nearRow]
  | [], _ :: _, h => by simp at h
  | _ :: _, [], h => by simp at h
  | x :: a, y :: b, h => by
    rw [nearRow, Bool.and_eq_true, nearRow_get a b (by simpa using h)]
    constructor
    · rintro ⟨h1, h2⟩ j hj hj'
      cases j with
      | zero => exact h1
      | succ j => exact h2 j (by simpa using hj) (by simpa using hj')
    · intro h1
      refine ⟨h1 0 (by simp) (by simp), fun j hj hj' => ?_⟩
      have := h1 (j + 1) (by simpa using hj) (by simpa using hj')
      simpa using this
theorem nearRow_append {den : Int} : ∀ (a b c d : List Int), b.length = a.length → nearRow den (a ++ c) (b ++ d) = (nearRow den a b && nearRow den c d)
  | [], [], c, d, _ => by simp [nearRow]
  | [], _ :: _, _, _, h => by simp at h
  | _ :: _, [], _, _, h => by simp at h
  | x :: a, y :: b, c, d, h => by
    rw [List.cons_append, List.cons_append, nearRow, nearRow, nearRow_append a b c d (by simpa using h), Bool.and_assoc]
theorem rowA_pas (i : Nat) : ∀ (x : List Int) (k : Nat), (rowA i k x).map (·.pa) = x
  | [], k => rfl
  | v :: x, k => by rw [rowA, List.map_cons, rowA_pas i x (k + 1)]
theorem rows_near {den : Int} {m : Nat} : ∀ (l c : List (List Int)) (i : Nat), c.length = l.length → (∀ x ∈ l, x.length = m) → (∀ x ∈ c, x.length = m) → nearRow den ((rowsA i l).map (·.pa)) ((rowsA i c).map (·.pa)) = nearRows den l c
  | [], [], i, _, _, _ => by simp [rowsA, nearRow, nearRows]
  | [], _ :: _, i, h, _, _ => by simp at h
  | _ :: _, [], i, h, _, _ => by simp at h
  | x :: l, y :: c, i, h, h1, h2 => by
    rw [rowsA, rowsA, List.map_append, List.map_append, rowA_pas, rowA_pas, nearRow_append _ _ _ _ (by rw [h1 x (by simp), h2 y (by simp)]), rows_near l c (i + 1) (by simpa using h) (fun z hz => h1 z (by simp [hz])) (fun z hz => h2 z (by simp [hz])), nearRows]
theorem nearRows_get {den : Int} {m : Nat} : ∀ (l c : List (List Int)), c.length = l.length → (∀ x ∈ l, x.length = m) → (∀ x ∈ c, x.length = m) → nearRows den l c = true → ∀ y ∈ c, ∀ v ∈ y, ∃ x ∈ l, ∃ p ∈ x, nearB den p v = true
  | [], [], _, _, _, _ => by simp
  | [], _ :: _, h, _, _, _ => by simp at h
  | _ :: _, [], h, _, _, _ => by simp at h
  | x :: l, z :: c, h, h1, h2, hn => by
    rw [nearRows, Bool.and_eq_true] at hn
    intro y hy v hv
    rw [List.mem_cons] at hy
    rcases hy with rfl | hy
    · obtain ⟨j, hj, rfl⟩ := List.mem_iff_getElem.1 hv
      have hx := h1 x (by simp)
      have hz := h2 y (by simp)
      have := (nearRow_get x y (by omega)).1 hn.1 j (by omega) hj
      exact ⟨x, by simp, _, List.getElem_mem _, this⟩
    · obtain ⟨x', hx', p, hp, e⟩ := nearRows_get l c (by simpa using h) (fun z hz => h1 z (by simp [hz])) (fun z hz => h2 z (by simp [hz])) hn.2 y hy v hv
      exact ⟨x', by simp [hx'], p, hp, e⟩
/-- The program's check is the document's. -/
theorem rounding_same (den : Int) (l coins : List (List Int)) : roundingE den l coins = refRE den l coins := by
  unfold roundingE refRE
  by_cases h : tableE den l = 0
  · have hv := Valid.of h
    have hu := tableE_upto h
    rw [if_neg (show ¬ (tableE den l ≠ 0) by simp [h]), if_neg (show ¬ (tableE den l ≠ 0) by simp [h])]
    cases hs : shapedB l coins with
    | false =>
      rw [if_pos rfl, if_pos]
      unfold shapedB at hs
      rw [Bool.and_eq_false_iff] at hs
      rcases hs with hs | hs
      · exact .inl (of_decide_eq_false hs)
      · exact .inr (by simpa using hs)
    | true =>
      obtain ⟨htc, hcl, hcm, hrow⟩ := hv.tab.coins hs
      have hno : ¬ (coins.length ≠ l.length ∨ coins.any (oddLine (rd_L2 l 0).length) = true) := by
        rintro (h1 | h1)
        · exact h1 hcl
        · unfold shapedB at hs
          rw [h1] at hs
          simp at hs
      rw [if_neg hno, if_neg (show ¬ (true = false) by decide)]
      have hcells : nearRows den l coins = true → coins.any (fun x => x.any badC) = false := by
        intro hn
        rw [List.any_eq_false]
        intro y hy
        rw [Bool.not_eq_true, List.any_eq_false]
        intro v hv'
        obtain ⟨x, hx, p, hp, e⟩ := nearRows_get l coins hcl hv.eq hrow hn y hy v hv'
        have hpr := hu x hx p hp
        have h1 := (near_iff hv.d1 hv.d2 hpr.1 (by omega)).1 e
        have h2 := h1.rng hv.d1 hpr.1
        have hd1 := hv.d1
        have hd2 := hv.d2
        have h3 : 0 ≤ v := by
          rcases Int.lt_or_le v 0 with h4 | h4
          · have := Int.mul_neg_of_pos_of_neg (show 0 < den by omega) h4
            omega
          · exact h4
        have h4 : v ≤ den * v := by
          have := Int.mul_le_mul_of_nonneg_right hd1 h3
          omega
        unfold badC
        simp
        omega
      by_cases hb : coins.any (fun x => x.any badC) = true
      · rw [if_pos hb]
        cases hn : nearRows den l coins with
        | false => rw [if_pos rfl]
        | true =>
          rw [hcells hn] at hb
          cases hb
      · have hsm : ∀ x ∈ coins, Small x := by
          intro x hx v hv'
          have h1 : coins.any (fun x => x.any badC) = false := by simpa using hb
          rw [List.any_eq_false] at h1
          have h2 := h1 x hx
          rw [Bool.not_eq_true, List.any_eq_false] at h2
          have h3 := h2 v hv'
          unfold badC at h3
          simp at h3
          omega
        have e1 := bookAm_eq ⟨hv.tab, hu.small (by omega)⟩
        have e2 := bookAm_eq ⟨htc, hsm⟩
        rw [if_neg hb]
        have key : nearRow den (pas l) (pas coins) = true → nearRows den l coins = true := by
          intro hn
          unfold pas at hn
          rw [e1, e2] at hn
          unfold bookX at hn
          rw [List.append_assoc, List.append_assoc, List.append_assoc, List.append_assoc, List.map_append, List.map_append (l₁ := rowsA 0 coins), nearRow_append _ _ _ _ (by rw [List.length_map, List.length_map, rowsA_len _ _ _ htc.eq, rowsA_len _ _ _ hv.eq, hcl, hcm]), Bool.and_eq_true] at hn
          rw [← rows_near l coins 0 hcl hv.eq hrow]
          exact hn.1
        show (if nearRows den l coins = false then 16 else if nearRow den (pas l) (pas coins) = false then 16 else 0) = _
        cases hn : nearRow den (pas l) (pas coins) with
        | true => rw [key hn]; rfl
        | false =>
          cases nearRows den l coins <;> rfl
  · rw [if_pos h, if_pos h]
/-- A table's settled amounts make a rounding. -/
theorem Done.round {den : Int} {l : List (List Int)} {am : List Am} (h : Done den l am) (ht : tableE den l = 0) : refRE den l (coinsOf den l am) = 0 := by
  obtain ⟨htc, huc, hcl, hcm⟩ := h.tab
  have hrow : ∀ x ∈ coinsOf den l am, x.length = (rd_L2 l 0).length := fun x hx => (coinsL_row hx).1
  unfold refRE
  have hs : shapedB l (coinsOf den l am) = true := by
    unfold shapedB
    rw [hcl, decide_eq_true rfl, Bool.true_and, Bool.not_eq_true', List.any_eq_false]
    intro x hx
    unfold oddLine
    simp [hrow x hx]
  have hb : (coinsOf den l am).any (fun x => x.any badC) = false := by
    rw [List.any_eq_false]
    intro x hx
    rw [Bool.not_eq_true, List.any_eq_false]
    intro v hv
    have := huc x hx v hv
    unfold badC
    simp
    omega
  have hn : nearRow den (pas l) (pas (coinsOf den l am)) = true := by
    have hlen : (bookAm (coinsOf den l am)).length = (bookAm l).length := by rw [htc.len, h.t.len, hcl, hcm]
    unfold pas
    rw [nearRow_get _ _ (by rw [List.length_map, List.length_map, hlen])]
    intro j hj hj'
    rw [List.length_map] at hj hj'
    rw [List.getElem_map, List.getElem_map, ← amAt_nat _ j hj, ← amAt_nat _ j hj']
    have hp := h.base.p0 j hj
    rw [near_iff h.d1 h.d2 hp.1 (by omega), ← h.book j hj]
    exact h.inv.near j hj
  rw [if_neg (by simp [ht]), hs, if_neg (by decide), hb, if_neg (by decide), if_pos hn]
theorem settle_done {den : Int} {l : List (List Int)} (ht : tableE den l = 0) : ∃ am, settleR den 100 (bookAm l) = some am ∧ Done den l am := by
  have hv := Valid.of ht
  have hu := tableE_upto ht
  have hB := book_base hv.tab hu (by omega) (by omega) hv.d1 hv.d2
  obtain ⟨am, h1, h2, h3⟩ := settle_ok hB (by omega) 100 hv.tab.le100
  exact ⟨am, h1, hv.tab, hu, hv.d1, hv.d2, h2, h3⟩
end Go.Proofs.Ytcgdbjojjpoegaa.P

/- Force: the cell is rounded as it is asked: plain law. -/
namespace Go.Proofs.Ytcgdbjojjpoegaa.P
open Go.RowKit Go.Proofs.YtcgdbjojjpoegaaW.PrintWords Go.Proofs.YtcgdbjojjpoegaaW.PrintLast Go.Proofs.YtcgdbjojjpoegaaW.PrintMore
set_option linter.unusedVariables false
set_option linter.unusedSimpArgs false

end Go.Proofs.Ytcgdbjojjpoegaa.P

namespace Go.Proofs.Ytcgdbjojjpoegaa.P
open Go.RowKit Go.Proofs.YtcgdbjojjpoegaaW.PrintWords Go.Proofs.YtcgdbjojjpoegaaW.PrintLast Go.Proofs.YtcgdbjojjpoegaaW.PrintMore
attribute [local go_sem] max2_int min2_int max_two min_two max_three min_three max_four min_four   -- for this text's walks alone
set_option linter.unusedVariables false
set_option linter.unusedSimpArgs false

/-! ### forecourtlaw09_long: function 27 -/
def forecourtlaw09_long.l0 : Nat → List (List Int) → Int → Option (Bool)
  | 0, _, _ => none
  | k + 1, x0, x3 => if x3 < (x0.length : Int) then (if 0 ≤ x3 then (if ((rd_L2 x0 x3).length : Int) > 10 then (some true) else (forecourtlaw09_long.l0 k x0 (wrap64 (x3 + 1)))) else (none)) else (some false)
def forecourtlaw09_long.f (k : Nat) (l0 : List (List Int)) : Option (Bool) := if (l0.length : Int) > 10 then (some true) else (forecourtlaw09_long.l0 k l0 0)
set_option maxHeartbeats 8000000 in
set_option maxRecDepth 100000 in
theorem forecourtlaw09_long.calls (k : Nat) (A0 : Option Addr) (c0 : Nat) (l0 : List (List Int)) (r : Bool) (w : World) (hr0 : Kd.C (Kd.slice 2 (Kd.int .i64)) w A0 l0.length l0) (hc0 : l0.length ≤ c0) (h : forecourtlaw09_long.f k l0 = some r) :
    Calls Try.prog 27 #[.slice A0 l0.length c0] w fun e w' => e = .returned (.bool r) ∧ Drawn0 w w' := by
  have HR0 := Aside0.mk hr0
  have HC0 := Aside0.mk hc0
  clear hr0 hc0
  have H : (if (l0.length : Int) > 10 then (some true) else (forecourtlaw09_long.l0 k l0 0)) = some r := h
  clear h
  by_cases c2 : (l0.length : Int) > 10
  · rw [if_pos c2] at H
    have c2b0 : decide (10 < (l0.length : Int)) = true := decide_eq_true c2
    have c2b1 : decide (10 < l0.length) = true := decide_eq_true (by omega)
    clear c2
    obtain rfl := Option.some.inj H
    go_enter Try.func27, Try.ntmps27
    go_wp2
    go_ret
    exact ⟨b5_, b8_⟩
  rw [if_neg c2] at H
  have c2b0 : decide (10 < (l0.length : Int)) = false := decide_eq_false c2
  have c2b1 : decide (10 < l0.length) = false := decide_eq_false (by omega)
  clear c2
  have H' := Aside0.mk H
  clear H
  go_enter Try.func27, Try.ntmps27
  go_wp2
  go_loopg [3] k (fun kq v3 w' => ∃ (x3_1 : Int), v3 = .int .i64 x3_1 ∧ Aside0 (forecourtlaw09_long.l0 kq l0 x3_1 = some r) ∧ Aside0 (kq ≤ k) ∧ Drawn0 w w')
  case atStart => exact ⟨(0), b5_, H', ⟨Nat.le_refl _⟩, b8_⟩
  clear H'
  try clear c2
  try clear c2b0
  try clear c2b1
  try clear p2
  obtain ⟨x3_1, rfl, HA, HK1, ⟨m1, rfl⟩⟩ := hrel
  cases gk with
  | zero => exact absurd HA.out (by simp [forecourtlaw09_long.l0])
  | succ k1 => ?_
  have H := HA.out
  clear HA
  simp only [forecourtlaw09_long.l0] at H
  by_cases c3 : x3_1 < (l0.length : Int)
  rotate_left
  · rw [if_neg c3] at H
    have c3b0 : decide (x3_1 < (l0.length : Int)) = false := decide_eq_false c3
    clear c3
    obtain rfl := Option.some.inj H
    go_wp2
    go_ret
    exact ⟨b5_, b8_⟩
  rw [if_pos c3] at H
  have c3b0 : decide (x3_1 < (l0.length : Int)) = true := decide_eq_true c3
  clear c3
  by_cases c4 : 0 ≤ x3_1
  rotate_left
  · rw [if_neg c4] at H
    exact absurd H (by simp)
  rw [if_pos c4] at H
  have c4b0 : decide (0 ≤ x3_1) = true := decide_eq_true c4
  clear c4
  by_cases c5 : ((rd_L2 l0 x3_1).length : Int) > 10
  · rw [if_pos c5] at H
    have c5b0 : decide (10 < ((rd_L2 l0 x3_1).length : Int)) = true := decide_eq_true c5
    have c5b1 : decide (10 < (rd_L2 l0 x3_1).length) = true := decide_eq_true (by omega)
    clear c5
    obtain rfl := Option.some.inj H
    have p472 : 0 ≤ (x3_1 : Int) := of_decide_eq_true b2_
    have q472 : x3_1 < (l0.length : Int) := of_decide_eq_true b2_
    obtain ⟨ad472, A472_0, c472_0, e472, hx472_0, hl472_0, hi472_0⟩ := at_L2 HR0.out x3_1 p472 q472
    cases e472
    have HR472_0 := Aside0.mk hi472_0
    have HC472_0 := Aside0.mk hl472_0
    clear hi472_0 hl472_0
    replace p472 := eq_true p472
    replace q472 := eq_true q472
    go_wp2
    go_ret
    exact ⟨b5_, b8_⟩
  rw [if_neg c5] at H
  have c5b0 : decide (10 < ((rd_L2 l0 x3_1).length : Int)) = false := decide_eq_false c5
  have c5b1 : decide (10 < (rd_L2 l0 x3_1).length) = false := decide_eq_false (by omega)
  clear c5
  have H' := Aside0.mk H
  clear H
  have p472 : 0 ≤ (x3_1 : Int) := of_decide_eq_true b2_
  have q472 : x3_1 < (l0.length : Int) := of_decide_eq_true b2_
  obtain ⟨ad472, A472_0, c472_0, e472, hx472_0, hl472_0, hi472_0⟩ := at_L2 HR0.out x3_1 p472 q472
  cases e472
  have HR472_0 := Aside0.mk hi472_0
  have HC472_0 := Aside0.mk hl472_0
  clear hi472_0 hl472_0
  replace p472 := eq_true p472
  replace q472 := eq_true q472
  go_wp2
  go_roundg k1
  case measure => have := HK1.out; omega
  case rel => exact ⟨(wrap64 (x3_1 + 1)), b5_, H', ⟨(by have := HK1.out; omega)⟩, b8_⟩

end Go.Proofs.Ytcgdbjojjpoegaa.P

namespace Go.Proofs.Ytcgdbjojjpoegaa.P
open Go.RowKit Go.Proofs.YtcgdbjojjpoegaaW.PrintWords Go.Proofs.YtcgdbjojjpoegaaW.PrintLast Go.Proofs.YtcgdbjojjpoegaaW.PrintMore
attribute [local go_sem] max2_int min2_int max_two min_two max_three min_three max_four min_four   -- for this text's walks alone
set_option linter.unusedVariables false
set_option linter.unusedSimpArgs false

/-! ### forecourtlaw09_table: function 40 -/
def forecourtlaw09_table.f (k : Nat) (a0_0 : Int) (l0_1 : List (List Int)) : Option (Bool) := (forecourtlaw09_long.f k l0_1).bind fun t547 => (if t547 = true then (some false) else ((forecourtref09_CheckTable.f k a0_0 l0_1).bind fun t548 => (some (t548 == 0))))
set_option maxHeartbeats 8000000 in
set_option maxRecDepth 100000 in
theorem forecourtlaw09_table.calls (k : Nat) (a0_0 : Int) (A0_1 : Option Addr) (c0_1 : Nat) (l0_1 : List (List Int)) (r : Bool) (w : World) (hr0_1 : Kd.C (Kd.slice 2 (Kd.int .i64)) w A0_1 l0_1.length l0_1) (hc0_1 : l0_1.length ≤ c0_1) (h : forecourtlaw09_table.f k a0_0 l0_1 = some r) :
    Calls Try.prog 40 #[.agg #[.int .i64 a0_0, .slice A0_1 l0_1.length c0_1]] w fun e w' => e = .returned (.bool r) ∧ Below w.heap.size w w' := by
  have hu39 := Try.underlying39
  have HR0_1 := Aside0.mk hr0_1
  have HC0_1 := Aside0.mk hc0_1
  clear hr0_1 hc0_1
  have HB := Aside0.mk (Below.refl w.heap.size w)
  have H : ((forecourtlaw09_long.f k l0_1).bind fun t547 => (if t547 = true then (some false) else ((forecourtref09_CheckTable.f k a0_0 l0_1).bind fun t548 => (some (t548 == 0))))) = some r := h
  clear h
  replace H := Option.bind_eq_some_iff.mp H
  obtain ⟨t547, A20, H⟩ := H
  replace H : (if t547 = true then (some false) else ((forecourtref09_CheckTable.f k a0_0 l0_1).bind fun t548 => (some (t548 == 0)))) = some r := H
  have A2 := Aside0.mk A20
  clear A20
  by_cases c3 : t547 = true
  · subst c3
    have H1 : (some false) = some r := by rw [if_pos rfl] at H; exact H
    clear H
    have H := H1
    clear H1
    obtain rfl := Option.some.inj H
    go_enter Try.func40, Try.ntmps40
    go_wp2_with (first | ((with_reducible refine gate_dst (N := 1) rfl ?_); refine bx_ (cs := #[.int .i64 a0_0, .slice A0_1 l0_1.length c0_1]) (t := 39) (fun gb546 w4 BK546 GE546 HB => ?_); obtain ⟨hcz5_0, hcz5_1, hfz5_0, hfz5_1⟩ := cz2_ BK546.out) | ((with_reducible refine gate_callee (f := 27) rfl ?_); refine goesL_ (some 5) rfl rfl Try.func27 (by kernel_rfl) rfl #[.slice A0_1 l0_1.length c0_1] rfl b3_ ?_; (with_reducible refine (forecourtlaw09_long.calls k _ _ l0_1 true _ ?side1 ?side2 A2.out).mono ?_); (case side1 => repeat (first | exact (Kd.C_below HR0_1.out HB.out) | (with_reducible refine Kd.C_alloc ?_ _) | (with_reducible refine Kd.C_drewN ?_ _) | (with_reducible refine Kd.C_drew ?_))); (case side2 => exact HC0_1.out); rintro e w' ⟨rfl, ⟨nd, rfl⟩⟩; refine ⟨_, rfl, ?_⟩))
    go_ret
    exact ⟨b4_, b1_⟩
  replace c3 := Bool.eq_false_iff.mpr c3
  subst c3
  have H1 : ((forecourtref09_CheckTable.f k a0_0 l0_1).bind fun t548 => (some (t548 == 0))) = some r := by rw [if_neg (show ¬ (false = true) by decide)] at H; exact H
  clear H
  have H := H1
  clear H1
  replace H := Option.bind_eq_some_iff.mp H
  obtain ⟨t548, A60, H⟩ := H
  replace H : (some (t548 == 0)) = some r := H
  have A6 := Aside0.mk A60
  clear A60
  obtain rfl := Option.some.inj H
  go_enter Try.func40, Try.ntmps40
  go_wp2_with (first | ((with_reducible refine gate_dst (N := 1) rfl ?_); refine bx_ (cs := #[.int .i64 a0_0, .slice A0_1 l0_1.length c0_1]) (t := 39) (fun gb546 w7 BK546 GE546 HB => ?_); obtain ⟨hcz8_0, hcz8_1, hfz8_0, hfz8_1⟩ := cz2_ BK546.out) | ((with_reducible refine gate_callee (f := 27) rfl ?_); refine goesL_ (some 5) rfl rfl Try.func27 (by kernel_rfl) rfl #[.slice A0_1 l0_1.length c0_1] rfl b3_ ?_; (with_reducible refine (forecourtlaw09_long.calls k _ _ l0_1 false _ ?side1 ?side2 A2.out).mono ?_); (case side1 => repeat (first | exact (Kd.C_below HR0_1.out HB.out) | (with_reducible refine Kd.C_alloc ?_ _) | (with_reducible refine Kd.C_drewN ?_ _) | (with_reducible refine Kd.C_drew ?_))); (case side2 => exact HC0_1.out); rintro e w' ⟨rfl, ⟨nd, rfl⟩⟩; refine ⟨_, rfl, ?_⟩) | (go_at_call 29; (with_reducible refine (forecourtref09_CheckTable.calls k a0_0 _ _ l0_1 t548 _ ?side1 ?side2 A6.out).mono ?_); (case side1 => repeat (first | exact (Kd.C_below HR0_1.out b1_) | (with_reducible refine Kd.C_alloc ?_ _) | (with_reducible refine Kd.C_drewN ?_ _) | (with_reducible refine Kd.C_drew ?_))); (case side2 => exact HC0_1.out); rintro e w9 ⟨rfl, hb⟩; replace BK546 := bk_ BK546 hb; replace HB := hB_ HB hb; (try clear hb)))
  go_ret
  exact ⟨b4_, b1_⟩

end Go.Proofs.Ytcgdbjojjpoegaa.P

/- What a table's law asks first; a cell of lines in memory. -/
namespace Go.Proofs.Ytcgdbjojjpoegaa.P
open Go.RowKit Go.Proofs.YtcgdbjojjpoegaaW.PrintWords Go.Proofs.YtcgdbjojjpoegaaW.PrintLast Go.Proofs.YtcgdbjojjpoegaaW.PrintMore
set_option linter.unusedVariables false
set_option linter.unusedSimpArgs false

theorem longT_l0 (l : List (List Int)) (hl : l.length ≤ 10) : ∀ (k i : Nat), i ≤ l.length → (l.length - i) + 1 ≤ k → ∃ b, forecourtlaw09_long.l0 k l (i : Int) = some b
  | 0, i => fun hi hk => by omega
  | k + 1, i => fun hi hk => by
    rw [forecourtlaw09_long.l0]
    by_cases hlt : i < l.length
    · rw [if_pos (by omega), if_pos (by omega)]
      split
      · exact ⟨_, rfl⟩
      · rw [wrapS i (by omega)]
        exact longT_l0 l hl k (i + 1) (by omega) (by omega)
    · rw [if_neg (by omega)]
      exact ⟨_, rfl⟩
theorem longT (l : List (List Int)) (k : Nat) (hk : 20 ≤ k) : ∃ b, forecourtlaw09_long.f k l = some b := by
  unfold forecourtlaw09_long.f
  split
  · exact ⟨_, rfl⟩
  · exact longT_l0 l (by omega) k 0 (by omega) (by omega)
/-- what a law takes as a table -/
theorem table_eq (den : Int) (l : List (List Int)) : ∃ b, forecourtlaw09_table.f 1000 den l = some b ∧ (b = true → tableE den l = 0) := by
  obtain ⟨b, h⟩ := longT l 1000 (by omega)
  unfold forecourtlaw09_table.f
  rw [h, Option.bind_some]
  by_cases hb : b = true
  · rw [if_pos hb]
    exact ⟨false, rfl, fun h => by cases h⟩
  · rw [if_neg hb, refCT den l 1000 (by omega), Option.bind_some]
    exact ⟨_, rfl, fun h => by simpa using h⟩
end Go.Proofs.Ytcgdbjojjpoegaa.P

/- Roundings of a table that is turned, and of one with whole coins added: plain law. -/
namespace Go.Proofs.Ytcgdbjojjpoegaa.P
open Go.RowKit Go.Proofs.YtcgdbjojjpoegaaW.PrintWords Go.Proofs.YtcgdbjojjpoegaaW.PrintLast Go.Proofs.YtcgdbjojjpoegaaW.PrintMore
set_option linter.unusedVariables false
set_option linter.unusedSimpArgs false

structure NearT (den : Int) (l x : List (List Int)) (n m : Nat) : Prop where
  cell : ∀ r k, r < n → k < m → Near den ((l.getD r []).getD k 0) (den * (x.getD r []).getD k 0)
  line : ∀ r, r < n → Near den (lineS l r) (den * lineS x r)
  col : ∀ k, k < m → Near den (colS l k) (den * colS x k)
  all : Near den (allS l) (den * allS x)
def GoodC (x : List (List Int)) : Prop := ∀ y ∈ x, ∀ v ∈ y, 0 ≤ v ∧ v ≤ 36000000
theorem any_badC (x : List (List Int)) : x.any (fun y => y.any badC) = false ↔ GoodC x := by
  rw [List.any_eq_false]
  constructor
  · intro h y hy v hv
    have h1 := h y hy
    rw [Bool.not_eq_true, List.any_eq_false] at h1
    have h2 := h1 v hv
    unfold badC at h2
    simp at h2
    omega
  · intro h y hy
    rw [Bool.not_eq_true, List.any_eq_false]
    intro v hv
    have := h y hy v hv
    unfold badC
    simp
    omega
theorem nearRow_am {den : Int} {l x : List (List Int)} (ht : tableE den l = 0) (hlen : (bookAm x).length = (bookAm l).length) :
    nearRow den (pas l) (pas x) = true ↔ ∀ j : Nat, j < (bookAm l).length → Near den (amAt (bookAm l) (j : Int)).pa (den * (amAt (bookAm x) (j : Int)).pa) := by
  have hv := Valid.of ht
  have hB := book_base hv.tab (tableE_upto ht) (by omega) (by omega) hv.d1 hv.d2
  unfold pas
  rw [nearRow_get _ _ (by rw [List.length_map, List.length_map, hlen])]
  constructor
  · intro h j hj
    have h1 := h j (by rw [List.length_map]; exact hj) (by rw [List.length_map]; omega)
    rw [List.getElem_map, List.getElem_map, ← amAt_nat _ j hj, ← amAt_nat _ j (by omega)] at h1
    have hp := hB.p0 j hj
    exact (near_iff hv.d1 hv.d2 hp.1 (by omega)).1 h1
  · intro h j hj hj'
    rw [List.length_map] at hj hj'
    rw [List.getElem_map, List.getElem_map, ← amAt_nat _ j hj, ← amAt_nat _ j hj']
    have hp := hB.p0 j hj
    exact (near_iff hv.d1 hv.d2 hp.1 (by omega)).2 (h j hj)
theorem refRE_sh {den : Int} {l x : List (List Int)} (ht : tableE den l = 0) (hs : shapedB l x = true) :
    (refRE den l x = 0 ↔ GoodC x ∧ NearT den l x l.length (rd_L2 l 0).length) ∧ (refRE den l x = 0 ∨ refRE den l x = 16) := by
  have hv := Valid.of ht
  have hu := tableE_upto ht
  obtain ⟨htc, hcl, hcm, hrow⟩ := hv.tab.coins hs
  unfold refRE
  rw [if_neg (show ¬ (tableE den l ≠ 0) by simp [ht]), hs, if_neg (by decide)]
  have hm0 := hv.m0
  by_cases hb : x.any (fun x => x.any badC) = true
  · rw [if_pos hb]
    refine ⟨⟨fun h => by omega, fun h => ?_⟩, .inr rfl⟩
    rw [(any_badC x).2 h.1] at hb
    cases hb
  · have hg : GoodC x := (any_badC x).1 (by simpa using hb)
    have hlen : (bookAm x).length = (bookAm l).length := by rw [htc.len, hv.tab.len, hcl, hcm]
    rw [if_neg hb]
    have key : nearRow den (pas l) (pas x) = true ↔ NearT den l x l.length (rd_L2 l 0).length := by
      rw [nearRow_am ht hlen]
      have e1 := bookAm_eq ⟨hv.tab, hu.small (by omega)⟩
      have e2 := bookAm_eq ⟨htc, fun y hy v hv' => by have := hg y hy v hv'; omega⟩
      have hl1 : (bookAm l).length = l.length * (rd_L2 l 0).length + l.length + (rd_L2 l 0).length + 1 := by rw [e1]; exact bookX_len hv.eq
      rw [hl1, e1, e2, hcm]
      have hxe : ∀ y ∈ x, y.length = (rd_L2 l 0).length := hrow
      have hle := hv.eq
      clear hv
      generalize (rd_L2 l 0).length = m at *
      constructor
      · intro h
        refine ⟨fun r k hr hk => ?_, fun r hr => ?_, fun k hk => ?_, ?_⟩
        · have hrm : r * m + k < l.length * m := by
            have := Nat.mul_le_mul_right m (show r + 1 ≤ l.length from hr)
            rw [Nat.add_mul] at this
            omega
          have := h (r * m + k) (by omega)
          rw [bookX_cell hle hr hk, bookX_cell hxe (by omega) hk] at this
          exact this
        · have := h (l.length * m + r) (by omega)
          rw [bookX_line hle hr, ← hcl, bookX_line hxe (by omega)] at this
          exact this
        · have := h (l.length * m + l.length + k) (by omega)
          rw [bookX_col hle hk, ← hcl, bookX_col hxe hk] at this
          exact this
        · have := h (l.length * m + l.length + m) (by omega)
          rw [bookX_all hle, ← hcl, bookX_all hxe] at this
          exact this
      · intro h j hj
        rcases index_cases hj hm0 with ⟨r, k, hr, hk, rfl⟩ | ⟨r, hr, rfl⟩ | ⟨k, hk, rfl⟩ | rfl
        · rw [bookX_cell hle hr hk, bookX_cell hxe (by omega) hk]
          exact h.cell r k hr hk
        · rw [bookX_line hle hr, ← hcl, bookX_line hxe (by omega)]
          exact h.line r hr
        · rw [bookX_col hle hk, ← hcl, bookX_col hxe hk]
          exact h.col k hk
        · rw [bookX_all hle, ← hcl, bookX_all hxe]
          exact h.all
    by_cases hn : nearRow den (pas l) (pas x) = true
    · rw [if_pos hn]
      exact ⟨⟨fun _ => ⟨hg, key.1 hn⟩, fun _ => rfl⟩, .inl rfl⟩
    · rw [if_neg hn]
      exact ⟨⟨fun h => by omega, fun h => absurd (key.2 h.2) hn⟩, .inr rfl⟩
/-! ### lines turned -/
theorem mem_cell {x : List (List Int)} {m : Nat} {y : List Int} {v : Int} (hy : y ∈ x) (hv : v ∈ y) : ∃ r k, r < x.length ∧ k < y.length ∧ x.getD r [] = y ∧ (x.getD r []).getD k 0 = v := by
  obtain ⟨r, hr, rfl⟩ := List.mem_iff_getElem.1 hy
  obtain ⟨k, hk, rfl⟩ := List.mem_iff_getElem.1 hv
  refine ⟨r, k, hr, hk, ?_, ?_⟩ <;> simp [List.getD, hr, hk]
theorem cell_mem {x : List (List Int)} {m : Nat} (h : ∀ y ∈ x, y.length = m) {r k : Nat} (hr : r < x.length) (hk : k < m) : ∃ y ∈ x, (x.getD r []).getD k 0 ∈ y := by
  have hl := h _ (List.getElem_mem hr)
  refine ⟨x[r], List.getElem_mem hr, ?_⟩
  have : (x.getD r []).getD k 0 = x[r][k] := by simp [List.getD, hr, show k < x[r].length by omega]
  rw [this]
  exact List.getElem_mem _
theorem good_iff {x : List (List Int)} {m : Nat} (h : ∀ y ∈ x, y.length = m) : GoodC x ↔ ∀ r k, r < x.length → k < m → 0 ≤ (x.getD r []).getD k 0 ∧ (x.getD r []).getD k 0 ≤ 36000000 := by
  constructor
  · intro hg r k hr hk
    obtain ⟨y, hy, hv⟩ := cell_mem h hr hk
    exact hg y hy _ hv
  · intro hg y hy v hv
    obtain ⟨r, k, hr, hk, _, rfl⟩ := mem_cell (m := m) hy hv
    exact hg r k hr (by rw [h y hy] at hk; exact hk)
theorem shaped_iff {l x : List (List Int)} : shapedB l x = true ↔ x.length = l.length ∧ ∀ y ∈ x, y.length = (rd_L2 l 0).length := by
  unfold shapedB
  rw [Bool.and_eq_true, decide_eq_true_iff, Bool.not_eq_true', List.any_eq_false]
  refine and_congr Iff.rfl (forall_congr' fun y => forall_congr' fun _ => ?_)
  unfold oddLine
  simp
  omega
/-- a table's error, for one that is well formed -/
theorem tableE_iff {den : Int} {l : List (List Int)} : tableE den l = 0 ↔ Tab l ∧ Upto 1000000 l ∧ 1 ≤ den ∧ den ≤ 1000 := by
  constructor
  · intro h
    have hv := Valid.of h
    exact ⟨hv.tab, tableE_upto h, hv.d1, hv.d2⟩
  · rintro ⟨ht, hu, h1, h2⟩
    unfold tableE
    have a0 := ht.n0
    have a6 := ht.n6
    have b0 := ht.m0
    have b6 := ht.m6
    rw [if_neg (by omega)]
    have e1 : l.any (oddLine (rd_L2 l 0).length) = false := by
      rw [List.any_eq_false]
      intro x hx
      unfold oddLine
      simp [ht.eq x hx]
    have e3 : l.any badLine = false := by
      rw [List.any_eq_false]
      intro x hx
      rw [badLine_any, Bool.not_eq_true, List.any_eq_false]
      intro v hv
      have := hu x hx v hv
      unfold badV
      simp
      omega
    have e2 : withinB 1 1000 [den] = true := by
      rw [← withinB_eq]
      simp
      omega
    rw [e1, if_neg (by decide), e2, if_neg (by decide), e3]
    rfl
/-! ### whole coins added -/
section
variable {l : List (List Int)} {i k : Nat} {v : Int}
end
end Go.Proofs.Ytcgdbjojjpoegaa.P

/- A part taken out of lines: what becomes of the amounts: plain law. -/
namespace Go.Proofs.Ytcgdbjojjpoegaa.P
open Go.RowKit Go.Proofs.YtcgdbjojjpoegaaW.PrintWords Go.Proofs.YtcgdbjojjpoegaaW.PrintLast Go.Proofs.YtcgdbjojjpoegaaW.PrintMore
set_option linter.unusedVariables false
set_option linter.unusedSimpArgs false

/-- a part taken out, without wrapping -/
def subR (wt : Int) (a b : List Int) : List Int := List.zipWith (fun x n => x - wt * n) a b
def subL (wt : Int) (left coins : List (List Int)) : List (List Int) := List.zipWith (subR wt) left coins
theorem subR_sum (wt : Int) : ∀ (a b : List Int), b.length = a.length → (subR wt a b).sum = a.sum - wt * b.sum
  | [], [], _ => by simp [subR]
  | [], _ :: _, h => by simp at h
  | _ :: _, [], h => by simp at h
  | x :: a, y :: b, h => by
    have ih := subR_sum wt a b (by simpa using h)
    unfold subR at ih ⊢
    rw [List.zipWith_cons_cons, List.sum_cons, List.sum_cons, List.sum_cons, ih, Int.mul_add]
    omega
theorem subR_at (wt : Int) (a b : List Int) (h : b.length = a.length) (k : Nat) : (subR wt a b).getD k 0 = a.getD k 0 - wt * b.getD k 0 := by
  unfold subR
  rcases Nat.lt_or_ge k a.length with hk | hk
  · simp [List.getD, List.getElem?_zipWith, hk, show k < b.length by omega]
  · simp [List.getD, List.getElem?_zipWith, List.getElem?_eq_none hk, List.getElem?_eq_none (show b.length ≤ k by omega)]
section
variable {wt : Int} {l c : List (List Int)} {m : Nat}
theorem subL_len (h : c.length = l.length) : (subL wt l c).length = l.length := by
  unfold subL
  rw [List.length_zipWith, h, Nat.min_self]
theorem subL_at (h : c.length = l.length) (r : Nat) : (subL wt l c).getD r [] = subR wt (l.getD r []) (c.getD r []) := by
  unfold subL
  rcases Nat.lt_or_ge r l.length with hk | hk
  · simp [List.getD, List.getElem?_zipWith, hk, show r < c.length by omega]
  · simp [List.getD, List.getElem?_zipWith, List.getElem?_eq_none hk, List.getElem?_eq_none (show c.length ≤ r by omega), subR]
theorem subL_row (h : c.length = l.length) (h1 : ∀ x ∈ l, x.length = m) (h2 : ∀ x ∈ c, x.length = m) : ∀ x ∈ subL wt l c, x.length = m := by
  intro x hx
  obtain ⟨r, hr, rfl⟩ := List.mem_iff_getElem.1 hx
  rw [subL_len h] at hr
  have e := subL_at (wt := wt) h r
  have e1 : (subL wt l c).getD r [] = (subL wt l c)[r]'(by rw [subL_len h]; exact hr) := by simp [List.getD, subL_len h, hr]
  rw [← e1, e]
  unfold subR
  rw [List.length_zipWith, h1 (l.getD r []) (by simp [List.getD, hr]), h2 (c.getD r []) (by simp [List.getD, show r < c.length by omega]), Nat.min_self]
theorem getD_len {l : List (List Int)} (h1 : ∀ x ∈ l, x.length = m) {r : Nat} (hr : r < l.length) : (l.getD r []).length = m := h1 _ (by simp [List.getD, hr])
theorem subL_cell (h : c.length = l.length) (h1 : ∀ x ∈ l, x.length = m) (h2 : ∀ x ∈ c, x.length = m) {r : Nat} (hr : r < l.length) (k : Nat) : ((subL wt l c).getD r []).getD k 0 = (l.getD r []).getD k 0 - wt * (c.getD r []).getD k 0 := by
  rw [subL_at h, subR_at]
  rw [getD_len h1 hr, getD_len h2 (by omega)]
theorem subL_line (h : c.length = l.length) (h1 : ∀ x ∈ l, x.length = m) (h2 : ∀ x ∈ c, x.length = m) {r : Nat} (hr : r < l.length) : lineS (subL wt l c) r = lineS l r - wt * lineS c r := by
  unfold lineS
  rw [subL_at h, subR_sum]
  rw [getD_len h1 hr, getD_len h2 (by omega)]
end
theorem subL_col {wt : Int} {m : Nat} (k : Nat) : ∀ {l c : List (List Int)}, c.length = l.length → (∀ x ∈ l, x.length = m) → (∀ x ∈ c, x.length = m) → colS (subL wt l c) k = colS l k - wt * colS c k
  | [], [], _, _, _ => by simp [subL, colS]
  | [], _ :: _, h, _, _ => by simp at h
  | _ :: _, [], h, _, _ => by simp at h
  | x :: l, y :: c, h, h1, h2 => by
    have ih := subL_col (wt := wt) k (l := l) (c := c) (by simpa using h) (fun z hz => h1 z (by simp [hz])) (fun z hz => h2 z (by simp [hz]))
    unfold subL colS at ih ⊢
    rw [List.zipWith_cons_cons, List.map_cons, List.map_cons, List.map_cons, List.sum_cons, List.sum_cons, List.sum_cons, ih, subR_at _ _ _ (by rw [h1 x (by simp), h2 y (by simp)]), Int.mul_add]
    omega
theorem subL_all {wt : Int} {m : Nat} : ∀ {l c : List (List Int)}, c.length = l.length → (∀ x ∈ l, x.length = m) → (∀ x ∈ c, x.length = m) → allS (subL wt l c) = allS l - wt * allS c
  | [], [], _, _, _ => by simp [subL, allS]
  | [], _ :: _, h, _, _ => by simp at h
  | _ :: _, [], h, _, _ => by simp at h
  | x :: l, y :: c, h, h1, h2 => by
    have ih := subL_all (wt := wt) (l := l) (c := c) (by simpa using h) (fun z hz => h1 z (by simp [hz])) (fun z hz => h2 z (by simp [hz]))
    unfold subL allS at ih ⊢
    rw [List.zipWith_cons_cons, List.map_cons, List.map_cons, List.map_cons, List.sum_cons, List.sum_cons, List.sum_cons, ih, subR_sum _ _ _ (by rw [h1 x (by simp), h2 y (by simp)]), Int.mul_add]
    omega
/-- The amounts of lines of numbers that are not too great, one by one. -/
def paAt (l : List (List Int)) (j : Nat) : Int := (amAt (bookX l l.length (rd_L2 l 0).length) (j : Int)).pa
theorem paAt_sub {wt : Int} {l c : List (List Int)} {m : Nat} (h : c.length = l.length) (h1 : ∀ x ∈ l, x.length = m) (h2 : ∀ x ∈ c, x.length = m) (h0 : 0 < l.length) (hm : 0 < m) (j : Nat) (hj : j < l.length * m + l.length + m + 1) :
    paAt (subL wt l c) j = paAt l j - wt * paAt c j := by
  have h3 := subL_row (wt := wt) h h1 h2
  have hl := subL_len (wt := wt) h
  have rd0 : ∀ {x : List (List Int)}, 0 < x.length → (∀ y ∈ x, y.length = m) → (rd_L2 x 0).length = m := by
    intro x hx hy
    rw [rd_L2_0 hx]
    exact getD_len hy hx
  unfold paAt
  rw [rd0 (by omega) h3, rd0 h0 h1, rd0 (by omega) h2]
  rcases index_cases hj hm with ⟨r, k, hr, hk, rfl⟩ | ⟨r, hr, rfl⟩ | ⟨k, hk, rfl⟩ | rfl
  · rw [bookX_cell h3 (by omega) hk, bookX_cell h1 hr hk, bookX_cell h2 (by omega) hk]
    exact subL_cell h h1 h2 hr k
  · have a := bookX_line h3 (show r < (subL wt l c).length by omega)
    have b := bookX_line h1 hr
    have d := bookX_line h2 (show r < c.length by omega)
    rw [hl] at a ⊢
    rw [h] at d ⊢
    rw [a, b, d]
    exact subL_line h h1 h2 hr
  · have a := bookX_col h3 hk
    have b := bookX_col h1 hk
    have d := bookX_col h2 hk
    rw [hl] at a ⊢
    rw [h] at d ⊢
    rw [a, b, d]
    exact subL_col k h h1 h2
  · have a := bookX_all h3
    have b := bookX_all h1
    have d := bookX_all h2
    rw [hl] at a ⊢
    rw [h] at d ⊢
    rw [a, b, d]
    exact subL_all h h1 h2
end Go.Proofs.Ytcgdbjojjpoegaa.P

/- Mixes: by how much a rounding may weigh: plain law. -/
namespace Go.Proofs.Ytcgdbjojjpoegaa.P
open Go.RowKit Go.Proofs.YtcgdbjojjpoegaaW.PrintWords Go.Proofs.YtcgdbjojjpoegaaW.PrintLast Go.Proofs.YtcgdbjojjpoegaaW.PrintMore
set_option linter.unusedVariables false
set_option linter.unusedSimpArgs false

/-- the least, and the greatest number of coins that an amount is rounded to -/
def loA (td a : Int) : Int := a / td
def hiA (td a : Int) : Int := if td ∣ a then a / td else a / td + 1
theorem lo_hi (td a : Int) : (td ∣ a ∧ hiA td a = loA td a) ∨ (¬ td ∣ a ∧ hiA td a = loA td a + 1) := by
  unfold loA hiA
  by_cases h : td ∣ a
  · exact .inl ⟨h, by rw [if_pos h]⟩
  · exact .inr ⟨h, by rw [if_neg h]⟩
theorem near_lohi {td a c : Int} (h : 1 ≤ td) : Near td a (td * c) ↔ loA td a ≤ c ∧ c ≤ hiA td a := by
  unfold Near
  have e1 : flo td a = td * loA td a := rfl
  have e2 : cei td a = td * hiA td a := by
    unfold cei hiA
    by_cases hd : td ∣ a
    · rw [if_pos hd, if_pos hd]
      exact (flo_dvd hd).symm
    · rw [if_neg hd, if_neg hd, Int.mul_add, Int.mul_one]
  rw [e1, e2]
  constructor
  · rintro ⟨x, y⟩
    exact ⟨Int.le_of_mul_le_mul_left x (by omega), Int.le_of_mul_le_mul_left y (by omega)⟩
  · rintro ⟨x, y⟩
    exact ⟨Int.mul_le_mul_of_nonneg_left x (by omega), Int.mul_le_mul_of_nonneg_left y (by omega)⟩
/-- the amount lies where a mix of roundings may bring it -/
def Bra (td ld a n : Int) : Prop := loA td a * ld ≤ n ∧ n ≤ hiA td a * ld
theorem bra_c {td ld a n c : Int} (hl : 1 ≤ ld) (hb : Bra td ld a n) (hn : Near ld n (ld * c)) : loA td a ≤ c ∧ c ≤ hiA td a ∧ (n = loA td a * ld → c = loA td a) ∧ (n = hiA td a * ld → c = hiA td a) := by
  have h1 := (near_lohi hl).1 hn
  have k1 : ∀ q : Int, q * ld ≤ n → q ≤ loA ld n := fun q hq => by
    unfold loA
    exact (Int.le_ediv_iff_mul_le (by omega)).2 hq
  have k2 : ∀ q : Int, n ≤ q * ld → hiA ld n ≤ q := fun q hq => by
    unfold hiA
    split
    · exact Int.ediv_le_of_le_mul (by omega) hq
    · rename_i hd
      have h2 : n / ld < q := by
        rw [Int.ediv_lt_iff_lt_mul (by omega)]
        rcases Int.lt_or_eq_of_le hq with h3 | h3
        · exact h3
        · exact absurd ⟨q, by rw [h3, Int.mul_comm]⟩ hd
      omega
  have a1 := k1 _ hb.1
  have a2 := k2 _ hb.2
  refine ⟨by omega, by omega, fun e => ?_, fun e => ?_⟩
  · have := k2 (loA td a) (by omega)
    omega
  · have := k1 (hiA td a) (by omega)
    omega
/-- by how much more a rounding may weigh, for the sake of one amount -/
def slk (td ld a n c : Int) : Int := if td ∣ a then ld else if c = loA td a then ld - (n - loA td a * ld) else n - loA td a * ld
theorem slk_rng {td ld a n c : Int} (hl : 1 ≤ ld) (hb : Bra td ld a n) (hn : Near ld n (ld * c)) : 1 ≤ slk td ld a n c ∧ slk td ld a n c ≤ ld := by
  obtain ⟨h1, h2, h3, h4⟩ := bra_c hl hb hn
  unfold slk
  obtain ⟨b1, b2⟩ := hb
  rcases lo_hi td a with ⟨hd, e⟩ | ⟨hd, e⟩
  · rw [if_pos hd]
    omega
  · rw [if_neg hd]
    rw [e, Int.add_mul, Int.one_mul] at b2 h4
    rw [e] at h2
    split
    · rename_i hc
      have : n ≠ loA td a * ld + ld := fun e9 => by have := h4 e9; omega
      omega
    · rename_i hc
      have : n ≠ loA td a * ld := fun e9 => hc (h3 e9)
      omega
/-- What is left, once a rounding is taken out. -/
theorem bra_next {td ld a n c wt : Int} (hl : 1 ≤ ld) (hb : Bra td ld a n) (hn : Near ld n (ld * c)) (hw : wt ≤ slk td ld a n c) (hw2 : wt ≤ ld) : Bra td (ld - wt) a (n - wt * c) := by
  obtain ⟨h1, h2, h3, h4⟩ := bra_c hl hb hn
  unfold slk at hw
  obtain ⟨b1, b2⟩ := hb
  unfold Bra
  rw [Int.mul_sub, Int.mul_sub]
  rcases lo_hi td a with ⟨hd, e⟩ | ⟨hd, e⟩
  · rw [e] at b2 h2 ⊢
    have ec : c = loA td a := by omega
    rw [ec, Int.mul_comm wt]
    omega
  · rw [if_neg hd] at hw
    rw [e, Int.add_mul, Int.one_mul] at b2
    rw [e] at h2 ⊢
    rw [Int.add_mul, Int.add_mul, Int.one_mul, Int.one_mul]
    by_cases hc : c = loA td a
    · rw [if_pos hc] at hw
      rw [hc, Int.mul_comm wt]
      omega
    · rw [if_neg hc] at hw
      have ec : c = loA td a + 1 := by omega
      rw [ec, Int.mul_add, Int.mul_one, Int.mul_comm wt]
      omega
def Tight (td ld a n : Int) : Prop := n = loA td a * ld ∨ n = hiA td a * ld
theorem tight_next {td ld a n c wt : Int} (hl : 1 ≤ ld) (hb : Bra td ld a n) (hn : Near ld n (ld * c)) (ht : Tight td ld a n) : Tight td (ld - wt) a (n - wt * c) := by
  obtain ⟨h1, h2, h3, h4⟩ := bra_c hl hb hn
  unfold Tight
  rw [Int.mul_sub, Int.mul_sub]
  rcases ht with ht | ht
  · left
    rw [h3 ht, Int.mul_comm wt]
    omega
  · right
    rw [h4 ht, Int.mul_comm wt]
    omega
theorem tight_slk {td ld a n c : Int} (hl : 1 ≤ ld) (hb : Bra td ld a n) (hn : Near ld n (ld * c)) (ht : Tight td ld a n) : slk td ld a n c = ld := by
  obtain ⟨h1, h2, h3, h4⟩ := bra_c hl hb hn
  unfold slk
  rcases lo_hi td a with ⟨hd, e⟩ | ⟨hd, e⟩
  · rw [if_pos hd]
  · rw [if_neg hd]
    rcases ht with ht | ht
    · rw [if_pos (h3 ht)]
      omega
    · have := h4 ht
      rw [if_neg (by omega), ht, e, Int.add_mul, Int.one_mul]
      omega
/-- An amount for whose sake a rounding weighs no more is tight then. -/
theorem slk_tight {td ld a n c wt : Int} (hl : 1 ≤ ld) (hb : Bra td ld a n) (hn : Near ld n (ld * c)) (hd : ¬ td ∣ a) (hw : wt = slk td ld a n c) : Tight td (ld - wt) a (n - wt * c) := by
  obtain ⟨h1, h2, h3, h4⟩ := bra_c hl hb hn
  rcases lo_hi td a with ⟨hd', e⟩ | ⟨hd', e⟩
  · exact absurd hd' hd
  · unfold slk at hw
    rw [if_neg hd] at hw
    unfold Tight
    rw [Int.mul_sub, Int.mul_sub, e, Int.add_mul, Int.add_mul, Int.one_mul, Int.one_mul]
    by_cases hc : c = loA td a
    · right
      rw [if_pos hc] at hw
      rw [hc, Int.mul_comm wt]
      omega
    · left
      rw [if_neg hc] at hw
      have ec : c = loA td a + 1 := by omega
      rw [ec, Int.mul_add, Int.mul_one, Int.mul_comm wt]
      omega
theorem slackF_eq {td ld a n c wt : Int} (h1 : 1 ≤ td) (h2 : td ≤ 1000) (hl : 1 ≤ ld) (hl2 : ld ≤ 1000) (ha : 0 ≤ a ∧ a ≤ 100000000) (hb : 0 ≤ n ∧ n ≤ 100000000) (hw : wt ≤ ld) : slackF td ld a n c wt = min wt (slk td ld a n c) := by
  unfold slackF slk
  have e0 : a.tmod td = a % td := Int.tmod_eq_emod_of_nonneg ha.1
  have e1 : a.tdiv td = loA td a := Int.tdiv_eq_ediv_of_nonneg ha.1
  have q1 : 0 ≤ loA td a := Int.ediv_nonneg ha.1 (by omega)
  have q2 : loA td a ≤ a := Int.ediv_le_self _ ha.1
  have q3 : 0 ≤ loA td a * ld := Int.mul_nonneg q1 (by omega)
  have q4 : loA td a * ld ≤ 100000000 * 1000 := Int.mul_le_mul (by omega) hl2 (by omega) (by omega)
  rw [e0, e1, wrap_id (loA td a) (by omega) (by omega), wrap_id (loA td a * ld) (by omega) (by omega), wrap_id (n - loA td a * ld) (by omega) (by omega), wrap_id (ld - (n - loA td a * ld)) (by omega) (by omega)]
  by_cases hd : a % td = 0
  · rw [if_pos hd, if_pos (Int.dvd_of_emod_eq_zero hd)]
    omega
  · rw [if_neg hd, if_neg (fun e => hd (Int.emod_eq_zero_of_dvd e))]
theorem slackTo_spec {td ld : Int} {am0 am1 am2 : List Am} (hl : 1 ≤ ld) : ∀ K : Nat,
    (∀ j : Nat, j < K → (∀ wt, wt ≤ ld → slackF td ld (amAt am0 j).pa (amAt am1 j).pa (amAt am2 j).pa wt = min wt (slk td ld (amAt am0 j).pa (amAt am1 j).pa (amAt am2 j).pa)) ∧ 1 ≤ slk td ld (amAt am0 j).pa (amAt am1 j).pa (amAt am2 j).pa ∧ slk td ld (amAt am0 j).pa (amAt am1 j).pa (amAt am2 j).pa ≤ ld) →
    1 ≤ slackTo td ld am0 am1 am2 ld K ∧ slackTo td ld am0 am1 am2 ld K ≤ ld ∧ (∀ j : Nat, j < K → slackTo td ld am0 am1 am2 ld K ≤ slk td ld (amAt am0 j).pa (amAt am1 j).pa (amAt am2 j).pa) ∧ (slackTo td ld am0 am1 am2 ld K = ld ∨ ∃ j : Nat, j < K ∧ slackTo td ld am0 am1 am2 ld K = slk td ld (amAt am0 j).pa (amAt am1 j).pa (amAt am2 j).pa)
  | 0, _ => ⟨hl, by rw [slackTo]; omega, fun j hj => by omega, .inl rfl⟩
  | K + 1, h => by
    obtain ⟨i1, i2, i3, i4⟩ := slackTo_spec hl K (fun j hj => h j (by omega))
    obtain ⟨g1, g2, g3⟩ := h K (by omega)
    rw [slackTo, g1 _ i2]
    refine ⟨by omega, by omega, fun j hj => ?_, ?_⟩
    · by_cases e : j = K
      · subst e; omega
      · have := i3 j (by omega); omega
    · rcases Int.le_total (slackTo td ld am0 am1 am2 ld K) (slk td ld (amAt am0 K).pa (amAt am1 K).pa (amAt am2 K).pa) with h9 | h9
      · rw [Int.min_eq_left h9]
        rcases i4 with i4 | ⟨j, hj, e⟩
        · exact .inl i4
        · exact .inr ⟨j, by omega, e⟩
      · rw [Int.min_eq_right h9]
        exact .inr ⟨K, by omega, rfl⟩
end Go.Proofs.Ytcgdbjojjpoegaa.P

/- Mixes: what is left is always rounded, and runs out: plain law. -/
namespace Go.Proofs.Ytcgdbjojjpoegaa.P
open Go.RowKit Go.Proofs.YtcgdbjojjpoegaaW.PrintWords Go.Proofs.YtcgdbjojjpoegaaW.PrintLast Go.Proofs.YtcgdbjojjpoegaaW.PrintMore
set_option linter.unusedVariables false
set_option linter.unusedSimpArgs false

def cnt (p : Nat → Bool) : Nat → Nat
  | 0 => 0
  | k + 1 => cnt p k + if p k = true then 1 else 0
theorem cnt_le {p q : Nat → Bool} : ∀ K, (∀ j, j < K → p j = true → q j = true) → cnt p K ≤ cnt q K
  | 0, _ => Nat.le_refl _
  | K + 1, h => by
    have ih := cnt_le (p := p) (q := q) K (fun j hj => h j (by omega))
    unfold cnt
    by_cases hp : p K = true
    · rw [if_pos hp, if_pos (h K (by omega) hp)]; omega
    · rw [if_neg hp]; split <;> omega
theorem cnt_lt {p q : Nat → Bool} : ∀ K, (∀ j, j < K → p j = true → q j = true) → (∃ j, j < K ∧ q j = true ∧ p j = false) → cnt p K < cnt q K
  | 0, _, ⟨j, hj, _⟩ => by omega
  | K + 1, h, ⟨j, hj, h1, h2⟩ => by
    unfold cnt
    by_cases e : j = K
    · subst e
      have := cnt_le (p := p) (q := q) j (fun j hj => h j (by omega))
      rw [if_pos h1, if_neg (by rw [h2]; decide)]
      omega
    · have ih := cnt_lt (p := p) (q := q) K (fun j hj => h j (by omega)) ⟨j, by omega, h1, h2⟩
      by_cases hp : p K = true
      · rw [if_pos hp, if_pos (h K (by omega) hp)]; omega
      · rw [if_neg hp]; split <;> omega
theorem cnt_max (p : Nat → Bool) : ∀ K, cnt p K ≤ K
  | 0 => Nat.le_refl _
  | K + 1 => by
    have := cnt_max p K
    unfold cnt
    split <;> omega
def amN (n m : Nat) : Nat := n * m + n + m + 1
/-- roundings, by the amounts -/
theorem near_pa {den : Int} {l x : List (List Int)} {m : Nat} (hcl : x.length = l.length) (hle : ∀ y ∈ l, y.length = m) (hxe : ∀ y ∈ x, y.length = m) (h0 : 0 < l.length) (hm : 0 < m) :
    NearT den l x l.length m ↔ ∀ j, j < amN l.length m → Near den (paAt l j) (den * paAt x j) := by
  have rd0 : ∀ {x : List (List Int)}, 0 < x.length → (∀ y ∈ x, y.length = m) → (rd_L2 x 0).length = m := by
    intro x hx hy
    rw [rd_L2_0 hx]
    exact getD_len hy hx
  unfold paAt amN
  rw [rd0 h0 hle, rd0 (by omega) hxe]
  constructor
  · intro h j hj
    rcases index_cases hj hm with ⟨r, k, hr, hk, rfl⟩ | ⟨r, hr, rfl⟩ | ⟨k, hk, rfl⟩ | rfl
    · rw [bookX_cell hle hr hk, bookX_cell hxe (by omega) hk]
      exact h.cell r k hr hk
    · rw [bookX_line hle hr, ← hcl, bookX_line hxe (by omega)]
      exact h.line r hr
    · rw [bookX_col hle hk, ← hcl, bookX_col hxe hk]
      exact h.col k hk
    · rw [bookX_all hle, ← hcl, bookX_all hxe]
      exact h.all
  · intro h
    refine ⟨fun r k hr hk => ?_, fun r hr => ?_, fun k hk => ?_, ?_⟩
    · have hrm : r * m + k < l.length * m := by
        have := Nat.mul_le_mul_right m (show r + 1 ≤ l.length from hr)
        rw [Nat.add_mul] at this
        omega
      have := h (r * m + k) (by omega)
      rw [bookX_cell hle hr hk, bookX_cell hxe (by omega) hk] at this
      exact this
    · have := h (l.length * m + r) (by omega)
      rw [bookX_line hle hr, ← hcl, bookX_line hxe (by omega)] at this
      exact this
    · have := h (l.length * m + l.length + k) (by omega)
      rw [bookX_col hle hk, ← hcl, bookX_col hxe hk] at this
      exact this
    · have := h (l.length * m + l.length + m) (by omega)
      rw [bookX_all hle, ← hcl, bookX_all hxe] at this
      exact this
theorem pa_cell {l : List (List Int)} {m : Nat} (hle : ∀ y ∈ l, y.length = m) (h0 : 0 < l.length) {r k : Nat} (hr : r < l.length) (hk : k < m) : r * m + k < amN l.length m ∧ paAt l (r * m + k) = (l.getD r []).getD k 0 := by
  have rd0 : (rd_L2 l 0).length = m := by
    rw [rd_L2_0 h0]
    exact getD_len hle h0
  refine ⟨?_, ?_⟩
  · have := Nat.mul_le_mul_right m (show r + 1 ≤ l.length from hr)
    rw [Nat.add_mul] at this
    unfold amN
    omega
  · unfold paAt
    rw [rd0, bookX_cell hle hr hk]
theorem pa_book {l : List (List Int)} (h : TabS l) (j : Nat) : (amAt (bookAm l) (j : Int)).pa = paAt l j := by
  unfold paAt
  rw [bookAm_eq h]
/-- What is taken out does not wrap. -/
theorem take_sub {wt : Int} (hw : 0 ≤ wt ∧ wt ≤ 1000) {l c : List (List Int)} (hl : ∀ y ∈ l, ∀ v ∈ y, 0 ≤ v ∧ v ≤ 100000000) (hc : ∀ y ∈ c, ∀ v ∈ y, 0 ≤ v ∧ v ≤ 100000000) : takeL wt l c = subL wt l c := by
  have row : ∀ (a b : List Int), (∀ v ∈ a, 0 ≤ v ∧ v ≤ 100000000) → (∀ v ∈ b, 0 ≤ v ∧ v ≤ 100000000) → List.zipWith (fun x n => wrap64 (x - wrap64 (wt * n))) a b = subR wt a b := by
    intro a
    induction a with
    | nil => intro b _ _; simp [subR]
    | cons x a ih =>
      intro b ha hb
      cases b with
      | nil => simp [subR]
      | cons y b =>
        have hx := ha x (by simp)
        have hy := hb y (by simp)
        have p1 : 0 ≤ wt * y := Int.mul_nonneg hw.1 hy.1
        have p2 : wt * y ≤ 1000 * 100000000 := Int.mul_le_mul hw.2 hy.2 (by omega) (by omega)
        have := ih b (fun v hv => ha v (by simp [hv])) (fun v hv => hb v (by simp [hv]))
        unfold subR at this ⊢
        rw [List.zipWith_cons_cons, List.zipWith_cons_cons, this, wrap_id (wt * y) (by omega) (by omega), wrap_id _ (by omega) (by omega)]
  unfold takeL subL
  induction l generalizing c with
  | nil => simp
  | cons x l ih =>
    cases c with
    | nil => simp
    | cons y c =>
      rw [List.zipWith_cons_cons, List.zipWith_cons_cons, ih (fun z hz => hl z (by simp [hz])) (fun z hz => hc z (by simp [hz])), row x y (hl x (by simp)) (hc y (by simp))]
end Go.Proofs.Ytcgdbjojjpoegaa.P

/- Mixes: the rounds: plain law. -/
namespace Go.Proofs.Ytcgdbjojjpoegaa.P
open Go.RowKit Go.Proofs.YtcgdbjojjpoegaaW.PrintWords Go.Proofs.YtcgdbjojjpoegaaW.PrintLast Go.Proofs.YtcgdbjojjpoegaaW.PrintMore
set_option linter.unusedVariables false
set_option linter.unusedSimpArgs false

instance (td ld a n : Int) : Decidable (Tight td ld a n) := by unfold Tight; infer_instance
def loose (td : Int) (l : List (List Int)) (ld : Int) (left : List (List Int)) (j : Nat) : Bool := !decide (Tight td ld (paAt l j) (paAt left j))
structure MixI (td : Int) (l : List (List Int)) (m : Nat) (ld : Int) (left : List (List Int)) : Prop where
  tl : tableE td l = 0
  em : (rd_L2 l 0).length = m
  len : left.length = l.length
  row : ∀ x ∈ left, x.length = m
  d0 : 0 ≤ ld
  d1 : ld ≤ td
  up : ∀ x ∈ left, ∀ v ∈ x, v ≤ 1000000
  bra : ∀ j, j < amN l.length m → Bra td ld (paAt l j) (paAt left j)
section
variable {td ld : Int} {l left : List (List Int)} {m : Nat}
theorem MixI.upto (h : MixI td l m ld left) : Upto 1000000 left := by
  intro y hy v hv
  obtain ⟨r, k, hr, hk, _, he⟩ := mem_cell (m := m) hy hv
  rw [h.row y hy] at hk
  have hlr := h.len
  have hV := Valid.of h.tl
  have hle : ∀ x ∈ l, x.length = m := fun x hx => by rw [← h.em]; exact hV.eq x hx
  obtain ⟨p1, p2⟩ := pa_cell hle hV.n0 (show r < l.length by omega) hk
  obtain ⟨_, p3⟩ := pa_cell h.row (by have := hV.n0; omega) hr hk
  have hb := (h.bra _ p1).1
  rw [p2, p3, he] at hb
  have hc := cell_rng (tableE_upto h.tl) (by omega) r k
  have hlo : 0 ≤ loA td ((l.getD r []).getD k 0) := Int.ediv_nonneg hc.1 (by have := hV.d1; omega)
  have := Int.mul_nonneg hlo h.d0
  exact ⟨by omega, h.up y hy v hv⟩
theorem MixI.tab (h : MixI td l m ld left) : Tab left ∧ (rd_L2 left 0).length = m := by
  have hV := Valid.of h.tl
  have e : (rd_L2 left 0).length = m := by
    rw [rd_L2_0 (by rw [h.len]; exact hV.n0)]
    exact getD_len h.row (by rw [h.len]; exact hV.n0)
  exact ⟨⟨by rw [h.len]; exact hV.n0, by rw [h.len]; exact hV.n6, by rw [e, ← h.em]; exact hV.m0, by rw [e, ← h.em]; exact hV.m6, fun x hx => by rw [e]; exact h.row x hx⟩, e⟩
theorem MixI.table (h : MixI td l m ld left) (h1 : 1 ≤ ld) : tableE ld left = 0 := by
  have hV := Valid.of h.tl
  exact tableE_iff.2 ⟨h.tab.1, h.upto, h1, by have := hV.d2; have := h.d1; omega⟩
/-- One round: what is taken out, by how much, and what is left. -/
theorem MixI.step (h : MixI td l m ld left) (h1 : 1 ≤ ld) :
    ∃ am c wt, settleR ld 100 (bookAm left) = some am ∧ c = coinsL ld am m l.length ∧ wt = slackTo td ld (bookAm l) (bookAm left) (bookAm c) ld (bookAm l).length ∧
      1 ≤ wt ∧ wt ≤ ld ∧ wrap64 (ld - wt) = ld - wt ∧ takeL wt left c = subL wt left c ∧ MixI td l m (ld - wt) (subL wt left c) ∧
      shapedB l c = true ∧ refRE td l c = 0 ∧ (∀ j, j < amN l.length m → paAt (subL wt left c) j = paAt left j - wt * paAt c j) ∧
      (wt = ld ∨ cnt (loose td l (ld - wt) (subL wt left c)) (amN l.length m) < cnt (loose td l ld left) (amN l.length m)) := by
  have hV := Valid.of h.tl
  have ht := h.table h1
  have hd1 := hV.d1
  have hd2 := hV.d2
  have hld := h.d1
  obtain ⟨htl, htm⟩ := h.tab
  obtain ⟨am, hs, hD⟩ := settle_done ht
  have hR := hD.round ht
  obtain ⟨ktc, kuc, kcl, kcm⟩ := hD.tab
  have ec : coinsOf ld left am = coinsL ld am m l.length := by
    unfold coinsOf
    rw [htm, h.len]
  rw [ec] at hR ktc kuc kcl kcm
  obtain ⟨c, hc⟩ : ∃ c, coinsL ld am m l.length = c := ⟨_, rfl⟩
  rw [hc] at hR ktc kuc kcl kcm
  have hle : ∀ x ∈ l, x.length = m := fun x hx => by rw [← h.em]; exact hV.eq x hx
  have hcr : ∀ x ∈ c, x.length = m := fun x hx => by rw [ktc.eq x hx, kcm, htm]
  have hcl : c.length = l.length := by rw [kcl, h.len]
  have h0 := hV.n0
  have hm : 0 < m := by rw [← h.em]; exact hV.m0
  have hsl : shapedB left c = true := shaped_iff.2 ⟨kcl, fun y hy => by rw [htm]; exact hcr y hy⟩
  have hsh : shapedB l c = true := shaped_iff.2 ⟨hcl, fun y hy => by rw [h.em]; exact hcr y hy⟩
  obtain ⟨hg, hn⟩ := (refRE_sh ht hsl).1.1 hR
  rw [htm] at hn
  have hnp := (near_pa kcl h.row hcr (by omega) hm).1 hn
  rw [h.len] at hnp
  have hbl : (bookAm l).length = amN l.length m := by
    have := hV.tab.len
    rw [h.em] at this
    exact this
  have hTl : TabS l := ⟨hV.tab, (tableE_upto h.tl).small (by omega)⟩
  have hTf : TabS left := ⟨htl, h.upto.small (by omega)⟩
  have hTc : TabS c := ⟨ktc, fun y hy v hv' => by have := hg y hy v hv'; omega⟩
  have hBl := book_base hV.tab (tableE_upto h.tl) (by omega) (by omega) hV.d1 hV.d2
  have hBf := book_base htl h.upto (by omega) (by omega) h1 (by omega)
  have hbf : (bookAm left).length = amN l.length m := by
    have := htl.len
    rw [htm, h.len] at this
    exact this
  have hslk : ∀ j : Nat, j < amN l.length m → (∀ wt, wt ≤ ld → slackF td ld (amAt (bookAm l) j).pa (amAt (bookAm left) j).pa (amAt (bookAm c) j).pa wt = min wt (slk td ld (amAt (bookAm l) j).pa (amAt (bookAm left) j).pa (amAt (bookAm c) j).pa)) ∧ 1 ≤ slk td ld (amAt (bookAm l) j).pa (amAt (bookAm left) j).pa (amAt (bookAm c) j).pa ∧ slk td ld (amAt (bookAm l) j).pa (amAt (bookAm left) j).pa (amAt (bookAm c) j).pa ≤ ld := by
    intro j hj
    have p1 := hBl.p0 j (by omega)
    have p2 := hBf.p0 j (by omega)
    have p3 := h.bra j hj
    have p4 := hnp j hj
    rw [← pa_book hTl, ← pa_book hTf] at p3
    rw [← pa_book hTf, ← pa_book hTc] at p4
    exact ⟨fun wt hw => slackF_eq hd1 hd2 h1 (by omega) (by omega) (by omega) hw, slk_rng h1 p3 p4⟩
  obtain ⟨w1, w2, w3, w4⟩ := slackTo_spec (td := td) (am0 := bookAm l) (am1 := bookAm left) (am2 := bookAm c) h1 (amN l.length m) hslk
  rw [← hbl] at w1 w2 w3 w4
  obtain ⟨wt, hw⟩ : ∃ wt, slackTo td ld (bookAm l) (bookAm left) (bookAm c) ld (bookAm l).length = wt := ⟨_, rfl⟩
  rw [hw] at w1 w2 w3 w4
  have hpa : ∀ j, j < amN l.length m → paAt (subL wt left c) j = paAt left j - wt * paAt c j := by
    intro j hj
    refine paAt_sub kcl h.row hcr (by omega) hm j ?_
    rw [h.len]
    exact hj
  have hbn : ∀ j, j < amN l.length m → Bra td (ld - wt) (paAt l j) (paAt left j - wt * paAt c j) := by
    intro j hj
    have p5 := w3 j (by omega)
    rw [pa_book hTl, pa_book hTf, pa_book hTc] at p5
    exact bra_next h1 (h.bra j hj) (hnp j hj) p5 w2
  have hsl2 : (subL wt left c).length = l.length := by rw [subL_len kcl, h.len]
  have hI : MixI td l m (ld - wt) (subL wt left c) := ⟨h.tl, h.em, hsl2, subL_row kcl h.row hcr, by omega, by omega, fun x hx v hv => by
    obtain ⟨r, k, hr, hk, _, he⟩ := mem_cell (m := m) hx hv
    rw [subL_row kcl h.row hcr x hx] at hk
    rw [hsl2] at hr
    rw [subL_cell kcl h.row hcr (by omega)] at he
    have c1 := cell_rng h.upto (by omega) r k
    have c2 := cell_rng kuc (by omega) r k
    have := Int.mul_nonneg (show 0 ≤ wt by omega) c2.1
    omega, fun j hj => by rw [hpa j hj]; exact hbn j hj⟩
  refine ⟨am, c, wt, hs, hc.symm, hw.symm, w1, w2, wrap_id _ (by omega) (by omega), take_sub (by omega) (fun y hy v hv => by have := h.upto y hy v hv; omega) (fun y hy v hv => by have := hg y hy v hv; omega), hI, hsh, ?_, hpa, ?_⟩
  · refine (refRE_sh h.tl hsh).1.2 ⟨hg, ?_⟩
    rw [h.em]
    refine (near_pa hcl hle hcr h0 hm).2 (fun j hj => ?_)
    have := bra_c h1 (h.bra j hj) (hnp j hj)
    exact (near_lohi hd1).2 ⟨this.1, this.2.1⟩
  · by_cases e : wt = ld
    · exact .inl e
    · right
      rcases w4 with w4 | ⟨j, hj, w4⟩
      · exact absurd w4 e
      · rw [hbl] at hj
        rw [pa_book hTl, pa_book hTf, pa_book hTc] at w4
        have hnt : ¬ td ∣ paAt l j := fun hd => by
          unfold slk at w4
          rw [if_pos hd] at w4
          exact e w4
        refine cnt_lt _ (fun i hi hp => ?_) ⟨j, hj, ?_, ?_⟩
        · unfold loose at hp ⊢
          rw [Bool.not_eq_true', decide_eq_false_iff_not] at hp ⊢
          intro ht9
          apply hp
          rw [hpa i hi]
          exact tight_next h1 (h.bra i hi) (hnp i hi) ht9
        · unfold loose
          rw [Bool.not_eq_true', decide_eq_false_iff_not]
          intro ht9
          have := tight_slk h1 (h.bra j hj) (hnp j hj) ht9
          omega
        · unfold loose
          rw [Bool.not_eq_false', decide_eq_true_iff, hpa j hj]
          exact slk_tight h1 (h.bra j hj) (hnp j hj) hnt w4
end
end Go.Proofs.Ytcgdbjojjpoegaa.P

/- Mixes: all rounds: plain law. -/
namespace Go.Proofs.Ytcgdbjojjpoegaa.P
open Go.RowKit Go.Proofs.YtcgdbjojjpoegaaW.PrintWords Go.Proofs.YtcgdbjojjpoegaaW.PrintLast Go.Proofs.YtcgdbjojjpoegaaW.PrintMore
set_option linter.unusedVariables false
set_option linter.unusedSimpArgs false

theorem mixR_zero (td : Int) (am0 : List Am) (m n : Nat) (left : List (List Int)) (out : List S71) : ∀ k, mixR td am0 m n k 0 left out = some out
  | 0 => by rw [mixR]; rfl
  | k + 1 => by rw [mixR]; rfl
/-- Parts that make up `left` with weights that make up `ld`. -/
structure Parts (td : Int) (l : List (List Int)) (m : Nat) (ld : Int) (left : List (List Int)) (ps : List S71) : Prop where
  ok : ∀ p ∈ ps, 1 ≤ p.f0 ∧ p.f0 ≤ td ∧ shapedB l p.f1 = true ∧ refRE td l p.f1 = 0
  wt : (ps.map fun p => p.f0).sum = ld
  pa : ∀ j, j < amN l.length m → (ps.map fun p => p.f0 * paAt p.f1 j).sum = paAt left j
theorem MixI.end_ {td : Int} {l left : List (List Int)} {m : Nat} (h : MixI td l m 0 left) : Parts td l m 0 left [] :=
  ⟨fun p hp => by simp at hp, rfl, fun j hj => by
    have := h.bra j hj
    unfold Bra at this
    simp at this
    simp
    omega⟩
theorem mix_go {td : Int} {l : List (List Int)} {m : Nat} : ∀ (k : Nat) (ld : Int) (left : List (List Int)) (out : List S71), MixI td l m ld left → cnt (loose td l ld left) (amN l.length m) + 1 ≤ k →
    ∃ ps, mixR td (bookAm l) m l.length k ld left out = some (out ++ ps) ∧ ps.length ≤ cnt (loose td l ld left) (amN l.length m) + 1 ∧ Parts td l m ld left ps ∧ (1 ≤ ld → 1 ≤ ps.length)
  | 0, ld, left, out, h, hk => by omega
  | k + 1, ld, left, out, h, hk => by
    by_cases h0 : ld = 0
    · subst h0
      exact ⟨[], by rw [mixR_zero, List.append_nil], by simp, h.end_, fun h9 => by omega⟩
    · have h1 : 1 ≤ ld := by have := h.d0; omega
      obtain ⟨am, c, wt, hs, hc, hw, w1, w2, hwr, htk, hI, hsh, hR, hpa, hcn⟩ := h.step h1
      have hu : mixR td (bookAm l) m l.length (k + 1) ld left out = mixR td (bookAm l) m l.length k (ld - wt) (subL wt left c) (out ++ [⟨wt, c⟩]) := by
        rw [mixR, if_pos (by omega), hs, Option.bind_some, ← hc, ← hw, hwr, htk]
      have key : ∃ ps, mixR td (bookAm l) m l.length k (ld - wt) (subL wt left c) (out ++ [⟨wt, c⟩]) = some ((out ++ [⟨wt, c⟩]) ++ ps) ∧ ps.length ≤ cnt (loose td l ld left) (amN l.length m) ∧ Parts td l m (ld - wt) (subL wt left c) ps := by
        by_cases e : wt = ld
        · have e0 : ld - wt = 0 := by omega
          rw [e0] at hI ⊢
          exact ⟨[], by rw [mixR_zero, List.append_nil], by simp, hI.end_⟩
        · rcases hcn with hcn | hcn
          · exact absurd hcn e
          · obtain ⟨ps, a1, a2, a3, _⟩ := mix_go k (ld - wt) (subL wt left c) (out ++ [⟨wt, c⟩]) hI (by omega)
            exact ⟨ps, a1, by omega, a3⟩
      obtain ⟨ps, a1, a2, a3⟩ := key
      have hd1 := h.d1
      refine ⟨⟨wt, c⟩ :: ps, by rw [hu, a1, List.append_assoc]; rfl, by rw [List.length_cons]; omega, ⟨fun p hp => ?_, ?_, fun j hj => ?_⟩, fun _ => by rw [List.length_cons]; omega⟩
      · rcases List.mem_cons.1 hp with rfl | hp
        · exact ⟨w1, by show wt ≤ td; omega, hsh, hR⟩
        · exact a3.ok p hp
      · rw [List.map_cons, List.sum_cons, a3.wt]
        show wt + (ld - wt) = ld
        omega
      · rw [List.map_cons, List.sum_cons, a3.pa j hj, hpa j hj]
        show wt * paAt c j + _ = _
        omega
theorem MixI.start {td : Int} {l : List (List Int)} (h : tableE td l = 0) : MixI td l (rd_L2 l 0).length td l := by
  have hV := Valid.of h
  have hd1 := hV.d1
  refine ⟨h, rfl, rfl, hV.eq, by omega, by omega, fun x hx v hv => (tableE_upto h x hx v hv).2, fun j hj => ?_⟩
  generalize paAt l j = a
  unfold Bra
  have h1 := flo_le (a := a) hd1
  have e1 : flo td a = td * loA td a := rfl
  rcases lo_hi td a with ⟨hd, e⟩ | ⟨hd, e⟩
  · have := flo_dvd hd
    rw [e, Int.mul_comm (loA td a)]
    omega
  · rw [e, Int.add_mul, Int.one_mul, Int.mul_comm (loA td a)]
    omega
/-- What Mix returns. -/
theorem pole_Mix_eq {td : Int} {l : List (List Int)} (h : tableE td l = 0) : ∃ ps, pole_Mix.f td l = some (ps, 0) ∧ 1 ≤ ps.length ∧ ps.length ≤ 60 ∧ Parts td l (rd_L2 l 0).length td l ps := by
  have hV := Valid.of h
  have hn : amN l.length (rd_L2 l 0).length ≤ 49 := by
    have h2 : l.length * (rd_L2 l 0).length ≤ 6 * 6 := Nat.mul_le_mul hV.n6 hV.m6
    have := hV.n6
    have := hV.m6
    unfold amN
    omega
  have hc := cnt_max (loose td l td l) (amN l.length (rd_L2 l 0).length)
  obtain ⟨ps, a1, a2, a3, a4⟩ := mix_go 60 td l [] (MixI.start h) (by omega)
  refine ⟨ps, ?_, a4 hV.d1, by omega, a3⟩
  unfold pole_Mix.f
  rw [if_neg (by simp [h]), a1]
  rfl
end Go.Proofs.Ytcgdbjojjpoegaa.P

/- The document's check of a mix: plain law. -/
namespace Go.Proofs.Ytcgdbjojjpoegaa.P
open Go.RowKit Go.Proofs.YtcgdbjojjpoegaaW.PrintWords Go.Proofs.YtcgdbjojjpoegaaW.PrintLast Go.Proofs.YtcgdbjojjpoegaaW.PrintMore
set_option linter.unusedVariables false
set_option linter.unusedSimpArgs false

def badW (den : Int) (p : S71) : Bool := decide (p.f0 < 1) || decide (den < p.f0)
def firstE (den : Int) (l : List (List Int)) : List S71 → Int
  | [] => 0
  | p :: ps => if refRE den l p.f1 = 0 then firstE den l ps else refRE den l p.f1
def sumW (ps : List S71) : Int := (ps.map fun p => p.f0).sum
def sumC (ps : List S71) (r k : Nat) : Int := (ps.map fun p => p.f0 * (p.f1.getD r []).getD k 0).sum
def cellOk (l : List (List Int)) (ps : List S71) (r k : Nat) : Bool := decide (sumC ps r k = (l.getD r []).getD k 0)
/-- the cells of a line, from one on; and of the lines behind it -/
def okK (l : List (List Int)) (ps : List S71) (r : Nat) : Nat → Nat → Bool
  | 0, _ => true
  | c + 1, k => cellOk l ps r k && okK l ps r c (k + 1)
def okR (l : List (List Int)) (ps : List S71) (m : Nat) : Nat → Nat → Bool
  | 0, _ => true
  | c + 1, r => okK l ps r m 0 && okR l ps m c (r + 1)
def mixE (den : Int) (l : List (List Int)) (ps : List S71) : Int :=
  if tableE den l ≠ 0 then tableE den l else if ps.length < 1 ∨ 60 < ps.length then 6 else if ps.any (badW den) = true then 3 else if firstE den l ps ≠ 0 then firstE den l ps else if sumW ps ≠ den then 14
  else if okR l ps (rd_L2 l 0).length l.length 0 = true then 0 else 14
/-- What is known of parts once weights and roundings are checked. -/
structure PartsOk (den : Int) (l : List (List Int)) (ps : List S71) : Prop where
  ok : ∀ p ∈ ps, 1 ≤ p.f0 ∧ p.f0 ≤ den ∧ refRE den l p.f1 = 0
  n : ps.length ≤ 60
theorem refRE_shaped {den : Int} {l x : List (List Int)} (ht : tableE den l = 0) (h : refRE den l x = 0) : shapedB l x = true := by
  cases hs : shapedB l x with
  | true => rfl
  | false =>
    unfold refRE at h
    rw [if_neg (by simp [ht]), if_pos hs] at h
    cases h
theorem firstE_zero {den : Int} {l : List (List Int)} : ∀ {ps : List S71}, firstE den l ps = 0 → ∀ p ∈ ps, refRE den l p.f1 = 0
  | [], _, p, hp => by simp at hp
  | q :: ps, h, p, hp => by
    rw [firstE] at h
    by_cases hq : refRE den l q.f1 = 0
    · rw [if_pos hq] at h
      rcases List.mem_cons.1 hp with rfl | hp
      · exact hq
      · exact firstE_zero h p hp
    · rw [if_neg hq] at h
      exact absurd h hq
theorem sum_rngZ {C : Int} (hC : 0 ≤ C) : ∀ (xs : List Int), (∀ x ∈ xs, 0 ≤ x ∧ x ≤ C) → 0 ≤ xs.sum ∧ xs.sum ≤ C * (xs.length : Int)
  | [], _ => by simp
  | x :: xs, h => by
    have ih := sum_rngZ hC xs (fun y hy => h y (by simp [hy]))
    have hx := h x (by simp)
    rw [List.sum_cons, List.length_cons, show ((xs.length + 1 : Nat) : Int) = (xs.length : Int) + 1 by omega, Int.mul_add, Int.mul_one]
    omega
theorem PartsOk.part {den : Int} {l : List (List Int)} {ps : List S71} (ht : tableE den l = 0) (h : PartsOk den l ps) (p : S71) (hp : p ∈ ps) (r k : Nat) (hr : r < l.length) (hk : k < (rd_L2 l 0).length) : 0 ≤ p.f0 * (p.f1.getD r []).getD k 0 ∧ p.f0 * (p.f1.getD r []).getD k 0 ≤ 36000000000 := by
  have ho := h.ok p hp
  have hs := shaped_iff.1 (refRE_shaped ht ho.2.2)
  have hg := ((refRE_sh ht (refRE_shaped ht ho.2.2)).1.1 ho.2.2).1
  have hc := (good_iff hs.2).1 hg r k (by omega) hk
  have hd := (Valid.of ht).d2
  exact ⟨Int.mul_nonneg (by omega) hc.1, by
    have := Int.mul_le_mul (show p.f0 ≤ 1000 by omega) hc.2 hc.1 (by omega)
    omega⟩
theorem sumC_rng {den : Int} {l : List (List Int)} {ps : List S71} (ht : tableE den l = 0) (h : PartsOk den l ps) (q r k : Nat) (hr : r < l.length) (hk : k < (rd_L2 l 0).length) : 0 ≤ sumC (ps.take q) r k ∧ sumC (ps.take q) r k ≤ 36000000000 * 60 := by
  unfold sumC
  have h1 := sum_rngZ (C := 36000000000) (by omega) ((ps.take q).map fun p => p.f0 * (p.f1.getD r []).getD k 0) (fun x hx => by
    obtain ⟨p, hp, rfl⟩ := List.mem_map.1 hx
    exact h.part ht p (List.mem_of_mem_take hp) r k hr hk)
  rw [List.length_map, List.length_take] at h1
  have := h.n
  omega
theorem sumC_succ {ps : List S71} {q : Nat} (r k : Nat) (hq : q < ps.length) : sumC (ps.take (q + 1)) r k = sumC (ps.take q) r k + ps[q].f0 * (ps[q].f1.getD r []).getD k 0 := by
  unfold sumC
  rw [List.take_succ_eq_append_getElem hq, List.map_append, List.sum_append]
  simp
theorem cm_l5 {den : Int} {l : List (List Int)} {ps : List S71} (ht : tableE den l = 0) (h : PartsOk den l ps) (r k : Nat) (hr : r < l.length) (hk : k < (rd_L2 l 0).length) (R : Option Int) (K : Nat) : ∀ (q N : Nat), q ≤ ps.length → ps.length - q + K ≤ N →
    (∀ N', K ≤ N' + 1 → N' ≤ N → forecourtref09_CheckMix.l5 (N' + 1) ps (r : Int) (k : Int) (sumC ps r k) (ps.length : Int) den l = R) →
    forecourtref09_CheckMix.l5 (N + 1) ps (r : Int) (k : Int) (sumC (ps.take q) r k) (q : Int) den l = R := by
  intro q N
  induction N generalizing q with
  | zero =>
    intro hq hN hR
    have e : q = ps.length := by omega
    subst e
    rw [List.take_length]
    exact hR 0 (by omega) (by omega)
  | succ N ih =>
    intro hq hN hR
    by_cases hlt : q < ps.length
    · have hp := h.ok ps[q] (List.getElem_mem hlt)
      have hs := shaped_iff.1 (refRE_shaped ht hp.2.2)
      have hg := ((refRE_sh ht (refRE_shaped ht hp.2.2)).1.1 hp.2.2).1
      have hrc : r < ps[q].f1.length := by omega
      have hrow := hs.2 ps[q].f1[r] (List.getElem_mem hrc)
      rw [forecourtref09_CheckMix.l5, if_pos (by omega), if_pos (by omega), if_pos (by omega), rd_T71_nat ps q hlt, if_pos (by omega), if_pos (by omega), rd_L2_nat _ r hrc, if_pos (by omega), rd_nat _ k (by omega), wrapS q (by have := h.n; omega)]
      have e : wrap64 (sumC (ps.take q) r k + wrap64 (ps[q].f0 * ps[q].f1[r][k])) = sumC (ps.take (q + 1)) r k := by
        have ec : ps[q].f1[r][k]'(by omega) = (ps[q].f1.getD r []).getD k 0 := by simp [List.getD, hrc, show k < ps[q].f1[r].length by omega]
        have p1 := h.part ht ps[q] (List.getElem_mem hlt) r k hr hk
        have p2 := sumC_rng ht h q r k hr hk
        rw [ec, sumC_succ r k hlt, wrap_id (ps[q].f0 * _) (by omega) (by omega), wrap_id _ (by omega) (by omega)]
      rw [e]
      exact ih (q + 1) (by omega) (by omega) (fun N' a b => hR N' a (by omega))
    · have e : q = ps.length := by omega
      subst e
      rw [List.take_length]
      exact hR (N + 1) (by omega) (by omega)
set_option maxRecDepth 100000 in
theorem cm_cells {den : Int} {l : List (List Int)} {ps : List S71} (ht : tableE den l = 0) (h : PartsOk den l ps) : ∀ N : Nat,
    (∀ r : Nat, r ≤ l.length → (l.length - r) * 400 + 1 ≤ N → forecourtref09_CheckMix.l3 N ps (r : Int) den l = some (if okR l ps (rd_L2 l 0).length (l.length - r) r = true then 0 else 14)) ∧
    (∀ r k : Nat, r < l.length → k ≤ (rd_L2 l 0).length → (l.length - r) * 400 ≤ N + k * 64 → forecourtref09_CheckMix.l4 N ps (r : Int) (k : Int) den l = some (if (okK l ps r ((rd_L2 l 0).length - k) k && okR l ps (rd_L2 l 0).length (l.length - (r + 1)) (r + 1)) = true then 0 else 14)) := by
  intro N
  have hV := Valid.of ht
  have hn6 := hV.n6
  have hm6 := hV.m6
  have h60 := h.n
  induction N using Nat.strongRecOn with
  | _ N ih =>
    refine ⟨fun r hr hN => ?_, fun r k hr hk hN => ?_⟩
    · obtain ⟨N, rfl⟩ : ∃ j, N = j + 1 := ⟨N - 1, by omega⟩
      rw [forecourtref09_CheckMix.l3]
      by_cases hlt : r < l.length
      · rw [if_pos (by omega)]
        have := (ih N (by omega)).2 r 0 hlt (Nat.zero_le _) (by omega)
        rw [show l.length - r = (l.length - (r + 1)) + 1 by omega, okR]
        exact this
      · rw [if_neg (by omega), show l.length - r = 0 by omega]
        rfl
    · obtain ⟨N, rfl⟩ : ∃ j, N = j + 1 := ⟨N - 1, by omega⟩
      have hrow := hV.eq l[r] (List.getElem_mem hr)
      rw [forecourtref09_CheckMix.l4, if_pos (by omega), if_pos (by omega), rd_L2_nat l r hr]
      by_cases hlt : k < (rd_L2 l 0).length
      · rw [if_pos (by omega)]
        obtain ⟨N, rfl⟩ : ∃ j, N = j + 1 := ⟨N - 1, by omega⟩
        have h5 := cm_l5 ht h r k hr hlt (some (if (okK l ps r ((rd_L2 l 0).length - k) k && okR l ps (rd_L2 l 0).length (l.length - (r + 1)) (r + 1)) = true then 0 else 14)) (N - 60) 0 N (Nat.zero_le _) (by omega) (fun N' hN' hN2 => by
          rw [forecourtref09_CheckMix.l5, if_neg (by omega), if_pos (by omega), if_pos (by omega), if_pos (by omega), rd_L2_nat l r hr, if_pos (by omega), rd_nat _ k (by omega), wrapS k (by omega)]
          have ec : l[r][k]'(by omega) = (l.getD r []).getD k 0 := by simp [List.getD, hr, show k < l[r].length by omega]
          rw [ec, show (rd_L2 l 0).length - k = ((rd_L2 l 0).length - (k + 1)) + 1 by omega, okK]
          by_cases hc : sumC ps r k = (l.getD r []).getD k 0
          · have hc2 : cellOk l ps r k = true := decide_eq_true hc
            rw [if_pos hc, hc2, Bool.true_and]
            exact (ih N' (by omega)).2 r (k + 1) hr (by omega) (by omega)
          · have hc2 : cellOk l ps r k = false := decide_eq_false hc
            rw [if_neg hc, hc2]
            rfl)
        exact h5
      · rw [if_neg (by omega), wrapS r (by omega), (ih N (by omega)).1 (r + 1) (by omega) (by omega), show (rd_L2 l 0).length - k = 0 by omega]
        rfl
def endE (den : Int) (l : List (List Int)) (ps : List S71) : Int := if sumW ps ≠ den then 14 else if okR l ps (rd_L2 l 0).length l.length 0 = true then 0 else 14
theorem sumW_succ {ps : List S71} {q : Nat} (hq : q < ps.length) : sumW (ps.take (q + 1)) = sumW (ps.take q) + ps[q].f0 := by
  unfold sumW
  rw [List.take_succ_eq_append_getElem hq, List.map_append, List.sum_append]
  simp
theorem sumW_rng {den : Int} {l : List (List Int)} {ps : List S71} (ht : tableE den l = 0) (h : PartsOk den l ps) (q : Nat) : 0 ≤ sumW (ps.take q) ∧ sumW (ps.take q) ≤ 60000 := by
  have hd := (Valid.of ht).d2
  have h1 := sum_rngZ (C := 1000) (by omega) ((ps.take q).map fun p => p.f0) (fun x hx => by
    obtain ⟨p, hp, rfl⟩ := List.mem_map.1 hx
    have := h.ok p (List.mem_of_mem_take hp)
    omega)
  rw [List.length_map, List.length_take] at h1
  have := h.n
  unfold sumW
  omega
set_option maxRecDepth 100000 in
theorem cm_l2 {den : Int} {l : List (List Int)} {ps : List S71} (ht : tableE den l = 0) (h : PartsOk den l ps) : ∀ (N q : Nat), q ≤ ps.length → ps.length - q + 2500 ≤ N →
    forecourtref09_CheckMix.l2 N ps (sumW (ps.take q)) (q : Int) den l = some (endE den l ps)
  | 0, q => fun _ hN => by omega
  | N + 1, q => fun hq hN => by
    have h60 := h.n
    rw [forecourtref09_CheckMix.l2]
    by_cases hlt : q < ps.length
    · have hp := h.ok ps[q] (List.getElem_mem hlt)
      have hs := sumW_rng ht h q
      have hd := (Valid.of ht).d2
      have := cm_l2 ht h N (q + 1) (by omega) (by omega)
      rw [if_pos (by omega), if_pos (by omega), rd_T71_nat ps q hlt, wrap_id (sumW _ + _) (by omega) (by omega), wrapS q (by omega), ← sumW_succ hlt]
      exact this
    · rw [if_neg (by omega), List.take_of_length_le (by omega)]
      unfold endE
      by_cases hw : sumW ps = den
      · have := (cm_cells ht h N).1 0 (by omega) (by have := (Valid.of ht).n6; omega)
        rw [if_pos hw, if_neg (by simp [hw])]
        exact this
      · rw [if_neg hw, if_pos hw]
set_option maxRecDepth 100000 in
theorem cm_l1 {den : Int} {l : List (List Int)} {ps : List S71} (ht : tableE den l = 0) (h60 : ps.length ≤ 60) (hw : ∀ p ∈ ps, 1 ≤ p.f0 ∧ p.f0 ≤ den) : ∀ (N q : Nat), q ≤ ps.length → (∀ p ∈ ps.take q, refRE den l p.f1 = 0) → ps.length - q + 2600 ≤ N →
    forecourtref09_CheckMix.l1 N ps (q : Int) den l = some (if firstE den l (ps.drop q) ≠ 0 then firstE den l (ps.drop q) else endE den l ps)
  | 0, q => fun _ _ hN => by omega
  | N + 1, q => fun hq hp hN => by
    rw [forecourtref09_CheckMix.l1]
    by_cases hlt : q < ps.length
    · rw [if_pos (by omega), if_pos (by omega), rd_T71_nat ps q hlt, refCR den l ps[q].f1 N (by omega), Option.bind_some, Option.bind_some, List.drop_eq_getElem_cons hlt, firstE, wrapS q (by omega)]
      by_cases hz : refRE den l ps[q].f1 = 0
      · rw [if_pos hz, if_pos hz]
        refine cm_l1 ht h60 hw N (q + 1) (by omega) (fun p hp9 => ?_) (by omega)
        rw [List.take_succ_eq_append_getElem hlt, List.mem_append, List.mem_singleton] at hp9
        rcases hp9 with hp9 | rfl
        · exact hp p hp9
        · exact hz
      · rw [if_neg hz, if_neg hz, if_pos hz]
    · rw [if_neg (by omega), List.drop_of_length_le (by omega)]
      have hpo : PartsOk den l ps := ⟨fun p hp9 => ⟨(hw p hp9).1, (hw p hp9).2, hp p (by rw [List.take_of_length_le (by omega)]; exact hp9)⟩, h60⟩
      exact cm_l2 ht hpo N 0 (Nat.zero_le _) (by omega)
set_option maxRecDepth 100000 in
theorem cm_l0 {den : Int} {l : List (List Int)} {ps : List S71} (ht : tableE den l = 0) (h60 : ps.length ≤ 60) : ∀ (N q : Nat), q ≤ ps.length → (∀ p ∈ ps.take q, 1 ≤ p.f0 ∧ p.f0 ≤ den) → ps.length - q + 2700 ≤ N →
    forecourtref09_CheckMix.l0 N ps (q : Int) den l = some (if (ps.drop q).any (badW den) = true then 3 else if firstE den l ps ≠ 0 then firstE den l ps else endE den l ps)
  | 0, q => fun _ _ hN => by omega
  | N + 1, q => fun hq hp hN => by
    rw [forecourtref09_CheckMix.l0]
    by_cases hlt : q < ps.length
    · rw [if_pos (by omega), if_pos (by omega), rd_T71_nat ps q hlt, List.drop_eq_getElem_cons hlt, List.any_cons, wrapS q (by omega)]
      unfold badW
      by_cases h1 : ps[q].f0 < 1
      · rw [if_pos h1]
        simp [h1]
      · rw [if_neg h1]
        by_cases h2 : ps[q].f0 > den
        · rw [if_pos h2]
          simp [show den < ps[q].f0 from h2]
        · have := cm_l0 ht h60 N (q + 1) (by omega) (fun p hp9 => by
            rw [List.take_succ_eq_append_getElem hlt, List.mem_append, List.mem_singleton] at hp9
            rcases hp9 with hp9 | rfl
            · exact hp p hp9
            · omega) (by omega)
          rw [if_neg h2, this]
          unfold badW
          simp [h1, show ¬ den < ps[q].f0 from h2]
    · rw [if_neg (by omega), List.drop_of_length_le (by omega)]
      have := cm_l1 ht h60 (fun p hp9 => hp p (by rw [List.take_of_length_le (by omega)]; exact hp9)) N 0 (Nat.zero_le _) (fun p hp9 => by simp at hp9) (by omega)
      exact this
theorem refCM (den : Int) (l : List (List Int)) (ps : List S71) (k : Nat) (hk : 3000 ≤ k) : forecourtref09_CheckMix.f k den l ps = some (mixE den l ps) := by
  unfold forecourtref09_CheckMix.f mixE
  rw [refCT den l k (by omega), Option.bind_some]
  by_cases h : tableE den l = 0
  · rw [if_pos h, if_neg (show ¬ (tableE den l ≠ 0) by simp [h])]
    obtain ⟨k, rfl⟩ : ∃ j, k = j + 1 := ⟨k - 1, by omega⟩
    by_cases h1 : (ps.length : Int) < 1
    · rw [if_pos h1, forecourtref09_CheckMix.j0, if_pos rfl, if_pos (.inl (by omega))]
    · rw [if_neg h1, forecourtref09_CheckMix.j0]
      by_cases h2 : (ps.length : Int) > 60
      · rw [decide_eq_true h2, if_pos rfl, if_pos (.inr (by omega))]
      · rw [decide_eq_false h2, if_neg (by decide), if_neg (by omega)]
        have := cm_l0 (ps := ps) h (by omega) k 0 (Nat.zero_le _) (fun p hp9 => by simp at hp9) (by omega)
        rw [List.drop_zero] at this
        exact this
  · rw [if_neg h, if_pos h, Option.bind_some]
end Go.Proofs.Ytcgdbjojjpoegaa.P

/- What Mix returns passes the document's check: plain law. -/
namespace Go.Proofs.Ytcgdbjojjpoegaa.P
open Go.RowKit Go.Proofs.YtcgdbjojjpoegaaW.PrintWords Go.Proofs.YtcgdbjojjpoegaaW.PrintLast Go.Proofs.YtcgdbjojjpoegaaW.PrintMore
set_option linter.unusedVariables false
set_option linter.unusedSimpArgs false

theorem okK_true {l : List (List Int)} {ps : List S71} {r : Nat} : ∀ (c k : Nat), (∀ k', k ≤ k' → k' < k + c → cellOk l ps r k' = true) → okK l ps r c k = true
  | 0, _, _ => rfl
  | c + 1, k, h => by
    rw [okK, h k (Nat.le_refl _) (by omega), okK_true c (k + 1) (fun k' a b => h k' (by omega) (by omega))]
    rfl
theorem okR_true {l : List (List Int)} {ps : List S71} {m : Nat} : ∀ (c r : Nat), (∀ r', r ≤ r' → r' < r + c → ∀ k, k < m → cellOk l ps r' k = true) → okR l ps m c r = true
  | 0, _, _ => rfl
  | c + 1, r, h => by
    rw [okR, okK_true m 0 (fun k' a b => h r (Nat.le_refl _) (by omega) k' (by omega)), okR_true c (r + 1) (fun r' a b => h r' (by omega) (by omega))]
    rfl
theorem firstE_all {den : Int} {l : List (List Int)} : ∀ {ps : List S71}, (∀ p ∈ ps, refRE den l p.f1 = 0) → firstE den l ps = 0
  | [], _ => rfl
  | q :: ps, h => by
    rw [firstE, if_pos (h q (by simp)), firstE_all (fun p hp => h p (by simp [hp]))]
theorem mixE_parts {td : Int} {l : List (List Int)} {ps : List S71} (ht : tableE td l = 0) (h1 : 1 ≤ ps.length) (h2 : ps.length ≤ 60) (hP : Parts td l (rd_L2 l 0).length td l ps) : mixE td l ps = 0 := by
  have hV := Valid.of ht
  unfold mixE
  have e1 : ps.any (badW td) = false := by
    rw [List.any_eq_false]
    intro p hp
    have := hP.ok p hp
    unfold badW
    simp
    omega
  have e2 : firstE td l ps = 0 := firstE_all (fun p hp => (hP.ok p hp).2.2.2)
  have e3 : sumW ps = td := hP.wt
  have e4 : okR l ps (rd_L2 l 0).length l.length 0 = true := okR_true l.length 0 (fun r _ hr k hk => by
    obtain ⟨q1, q2⟩ := pa_cell hV.eq hV.n0 (show r < l.length by omega) hk
    have h9 := hP.pa _ q1
    rw [q2] at h9
    unfold cellOk sumC
    rw [← h9]
    refine decide_eq_true ?_
    congr 1
    apply List.map_congr_left
    intro p hp
    have hs := shaped_iff.1 (hP.ok p hp).2.2.1
    rw [(pa_cell hs.2 (by have := hV.n0; omega) (show r < p.f1.length by omega) hk).2])
  rw [if_neg (show ¬ (tableE td l ≠ 0) by simp [ht]), if_neg (by omega), e1, if_neg (by decide), e2, if_neg (by decide), e3, if_neg (by simp), e4, if_pos rfl]
end Go.Proofs.Ytcgdbjojjpoegaa.P

/- The closures of CheckMix. -/
namespace Go.Proofs.Ytcgdbjojjpoegaa.P
open Go.RowKit Go.Shelf Go.Proofs.YtcgdbjojjpoegaaW.PrintWords Go.Proofs.YtcgdbjojjpoegaaW.PrintLast Go.Proofs.YtcgdbjojjpoegaaW.PrintMore
set_option linter.unusedVariables false
set_option linter.unusedSimpArgs false

set_option maxHeartbeats 400000 in
set_option maxRecDepth 100000 in
theorem badW_lit (w : World) (g : Nat) (den : Int) (h1 : w.cell? ⟨g, 0, none⟩ = some (.int .i64 den)) :
    PredW 74 #[.pointer (some ⟨g, 0, none⟩)] (badW den) w := by
  intro W x v hb
  have d1 := cell_in (box1 W (.cells #[.int .i64 x.f0, v] 71)) (cell_in hb h1)
  have HB := Lib.hid (box1 W (.cells #[.int .i64 x.f0, v] 71))
  have HN := Lib.hid (blk_new W (.cells #[.int .i64 x.f0, v] 71))
  have HE := Lib.hid (show badW den x = !withinB 1 den [x.f0] by
    rw [← withinB_eq]
    unfold badW
    simp)
  clear h1 hb
  show Calls Try.prog 74 #[.agg #[.int .i64 x.f0, v], .pointer (some ⟨g, 0, none⟩)] W _
  generalize x.f0 = n at *
  go_enter Try.func74, Try.ntmps74
  go_upto_region 1 with (fail)
  generalize W.alloc (.cells #[.int .i64 n, v] 71) = W1 at *
  have d2 : W1.cell? ⟨W.heap.size, 0, none⟩ = some (.int .i64 n) := (blk_cell HN.out 0).trans rfl
  clear HN
  go_wp2_with fail
  refine (within_one _ _ n _ _ _ ?_).mono ?_
  focus (go_simp; done)
  rintro e W2 ⟨rfl, hb2⟩
  have HB2 := Lib.hid (alloc_step hb2)
  clear hb2
  go_wp2
  go_ret
  exact ⟨(by rw [HE.out]; rfl), below_then HB.out HB.out.size HB2.out⟩
def someOff (l : List Int) : Bool := !withinB 0 0 l
set_option maxHeartbeats 400000 in
set_option maxRecDepth 100000 in
theorem someOff_lit (w : World) : PredS 77 #[] someOff w := by
  intro W A c' x hb hle hC
  clear hb
  have H := Lib.hid (within_calls 0 0 A c' x W hC)
  clear hC
  show Calls Try.prog 77 #[.slice A x.length c'] W _
  go_enter Try.func77, Try.ntmps77
  go_wp2_with (go_at_call 51; refine (H.out).mono ?_; rintro e w1 ⟨rfl, hb1⟩)
  go_ret
  exact ⟨rfl, hb1⟩
end Go.Proofs.Ytcgdbjojjpoegaa.P

/- What is left of a table behind its parts: plain law. -/
namespace Go.Proofs.Ytcgdbjojjpoegaa.P
open Go.RowKit Go.Proofs.YtcgdbjojjpoegaaW.PrintWords Go.Proofs.YtcgdbjojjpoegaaW.PrintLast Go.Proofs.YtcgdbjojjpoegaaW.PrintMore
set_option linter.unusedVariables false
set_option linter.unusedSimpArgs false

theorem takeL_row {wt : Int} {a b : List (List Int)} {r : Nat} (hr : r < a.length) (hr2 : r < b.length) : (takeL wt a b).getD r [] = List.zipWith (fun x n => wrap64 (x - wrap64 (wt * n))) (a.getD r []) (b.getD r []) := by
  unfold takeL
  simp [List.getD_eq_getElem?_getD, List.getElem?_zipWith, List.getElem?_eq_getElem hr, List.getElem?_eq_getElem hr2]
theorem takeL_at {wt : Int} {a b : List (List Int)} {r k : Nat} (hr : r < a.length) (hr2 : r < b.length) (hk : k < (a.getD r []).length) (hk2 : k < (b.getD r []).length) :
    ((takeL wt a b).getD r []).getD k 0 = wrap64 ((a.getD r []).getD k 0 - wrap64 (wt * (b.getD r []).getD k 0)) := by
  rw [takeL_row hr hr2]
  generalize a.getD r [] = x at *
  generalize b.getD r [] = y at *
  simp [List.getD_eq_getElem?_getD, List.getElem?_zipWith, List.getElem?_eq_getElem hk, List.getElem?_eq_getElem hk2]
/-- What is left behind the first parts. -/
structure LeftOk (l : List (List Int)) (ps : List S71) (q : Nat) (left : List (List Int)) : Prop where
  len : left.length = l.length
  row : ∀ x ∈ left, x.length = (rd_L2 l 0).length
  cel : ∀ r k, r < l.length → k < (rd_L2 l 0).length → (left.getD r []).getD k 0 = (l.getD r []).getD k 0 - sumC (ps.take q) r k
theorem LeftOk.start {den : Int} {l : List (List Int)} {ps : List S71} (ht : tableE den l = 0) : LeftOk l ps 0 l :=
  ⟨rfl, (Valid.of ht).eq, fun r k hr hk => by simp [sumC]⟩
theorem getD_row {x : List (List Int)} {m r : Nat} (h : ∀ y ∈ x, y.length = m) (hr : r < x.length) : (x.getD r []).length = m := by
  have : x.getD r [] = x[r] := by simp [List.getD, hr]
  rw [this]
  exact h _ (List.getElem_mem hr)
theorem LeftOk.step {den : Int} {l left : List (List Int)} {ps : List S71} {q : Nat} (ht : tableE den l = 0) (hp : PartsOk den l ps) (h : LeftOk l ps q left) (hq : q < ps.length) : LeftOk l ps (q + 1) (takeL ps[q].f0 left ps[q].f1) := by
  have ho := hp.ok ps[q] (List.getElem_mem hq)
  have hs := shaped_iff.1 (refRE_shaped ht ho.2.2)
  refine ⟨?_, ?_, fun r k hr hk => ?_⟩
  · unfold takeL
    rw [List.length_zipWith, h.len, hs.1, Nat.min_self]
  · intro x hx
    obtain ⟨r, hr, rfl⟩ := List.getElem_of_mem hx
    have h1 : r < left.length := by unfold takeL at hr; rw [List.length_zipWith] at hr; omega
    have h2 : r < ps[q].f1.length := by unfold takeL at hr; rw [List.length_zipWith] at hr; omega
    have e : (takeL ps[q].f0 left ps[q].f1)[r] = (takeL ps[q].f0 left ps[q].f1).getD r [] := by simp [List.getD, hr]
    rw [e, takeL_row h1 h2, List.length_zipWith, getD_row h.row h1, getD_row hs.2 h2, Nat.min_self]
  · have h1 : r < left.length := by rw [h.len]; exact hr
    have h2 : r < ps[q].f1.length := by rw [hs.1]; exact hr
    have hu := cell_rng (tableE_upto ht) (by omega) r k
    have hc := sumC_rng ht hp q r k hr hk
    have hc2 := hp.part ht ps[q] (List.getElem_mem hq) r k hr hk
    rw [takeL_at h1 h2 (by rw [getD_row h.row h1]; exact hk) (by rw [getD_row hs.2 h2]; exact hk), h.cel r k hr hk, sumC_succ r k hq, wrap_id (ps[q].f0 * _) (by omega) (by omega), wrap_id _ (by omega) (by omega)]
    omega
theorem okK_iff {l : List (List Int)} {ps : List S71} {r : Nat} : ∀ (c k : Nat), okK l ps r c k = true → ∀ k', k ≤ k' → k' < k + c → cellOk l ps r k' = true
  | 0, k, _, k', a, b => by omega
  | c + 1, k, h, k', a, b => by
    rw [okK, Bool.and_eq_true] at h
    rcases Nat.lt_or_ge k k' with h1 | h1
    · exact okK_iff c (k + 1) h.2 k' h1 (by omega)
    · rw [show k' = k by omega]
      exact h.1
theorem okR_iff {l : List (List Int)} {ps : List S71} {m : Nat} : ∀ (c r : Nat), okR l ps m c r = true → ∀ r', r ≤ r' → r' < r + c → ∀ k, k < m → cellOk l ps r' k = true
  | 0, r, _, r', a, b => by omega
  | c + 1, r, h, r', a, b => by
    rw [okR, Bool.and_eq_true] at h
    rcases Nat.lt_or_ge r r' with h1 | h1
    · exact okR_iff c (r + 1) h.2 r' h1 (by omega)
    · rw [show r' = r by omega]
      exact fun k hk => okK_iff m 0 h.1 k (Nat.zero_le _) (by omega)
theorem LeftOk.last {l left : List (List Int)} {ps : List S71} (h : LeftOk l ps ps.length left) : left.any someOff = !okR l ps (rd_L2 l 0).length l.length 0 := by
  have ht : ps.take ps.length = ps := List.take_length
  have hat := h.cel
  rw [ht] at hat
  cases ho : okR l ps (rd_L2 l 0).length l.length 0 with
  | true =>
    rw [Bool.not_true, List.any_eq_false]
    intro x hx
    obtain ⟨r, hr, rfl⟩ := List.getElem_of_mem hx
    have h3 : withinB 0 0 left[r] = true := by
      unfold withinB
      rw [List.all_eq_true]
      intro v hv
      obtain ⟨k, hk, rfl⟩ := List.getElem_of_mem hv
      have hk2 : k < (rd_L2 l 0).length := by rw [← h.row _ (List.getElem_mem hr)]; exact hk
      have hr2 : r < l.length := by rw [← h.len]; exact hr
      have hc := okR_iff _ _ ho r (Nat.zero_le _) (by omega) k hk2
      have h4 := hat r k hr2 hk2
      have e : (left.getD r []).getD k 0 = left[r][k] := by simp [List.getD, hr, hk]
      unfold cellOk at hc
      rw [decide_eq_true_iff] at hc
      rw [e] at h4
      have h5 : left[r][k] = 0 := by omega
      rw [h5]
      rfl
    simp [someOff, h3]
  | false =>
    rw [Bool.not_false]
    cases ha : left.any someOff with
    | true => rfl
    | false =>
      rw [List.any_eq_false] at ha
      refine absurd (okR_true l.length 0 fun r _ hr k hk => ?_) (by rw [ho]; simp)
      have hr1 : r < left.length := by rw [h.len]; omega
      have h3 := ha left[r] (List.getElem_mem hr1)
      have h4 : withinB 0 0 left[r] = true := by
        unfold someOff at h3
        simpa using h3
      have hk1 : k < left[r].length := by rw [h.row _ (List.getElem_mem hr1)]; exact hk
      unfold withinB at h4
      rw [List.all_eq_true] at h4
      have h5 := h4 _ (List.getElem_mem hk1)
      have h6 := hat r k (by omega) hk
      have e : (left.getD r []).getD k 0 = left[r][k] := by simp [List.getD, hr1, hk1]
      rw [e] at h6
      simp at h5
      unfold cellOk
      rw [decide_eq_true_iff]
      omega
theorem endE_eq {den : Int} {l left : List (List Int)} {ps : List S71} (h : LeftOk l ps ps.length left) : endE den l ps = if sumW ps ≠ den then 14 else if left.any someOff = true then 14 else 0 := by
  unfold endE
  rw [h.last]
  split
  · rfl
  · cases okR l ps (rd_L2 l 0).length l.length 0 <;> rfl
end Go.Proofs.Ytcgdbjojjpoegaa.P

/- CheckMix (47). -/
namespace Go.Proofs.Ytcgdbjojjpoegaa.P
open Go.RowKit Go.Shelf Go.Proofs.YtcgdbjojjpoegaaW.PrintWords Go.Proofs.YtcgdbjojjpoegaaW.PrintLast Go.Proofs.YtcgdbjojjpoegaaW.PrintMore Go.Proofs.YtcgdbjojjpoegaaM Go.Proofs.YtcgdbjojjpoegaaR
set_option linter.unusedVariables false
set_option linter.unusedSimpArgs false

theorem badW_none {den : Int} {ps : List S71} (h : ps.any (badW den) = false) : ∀ p ∈ ps, 1 ≤ p.f0 ∧ p.f0 ≤ den := by
  intro p hp
  rw [List.any_eq_false] at h
  have := h p hp
  unfold badW at this
  simp at this
  omega
theorem sumW_rng2 {den : Int} {ps : List S71} (hd : den ≤ 1000) (hn : ps.length ≤ 60) (h : ∀ p ∈ ps, 1 ≤ p.f0 ∧ p.f0 ≤ den) (q : Nat) : 0 ≤ sumW (ps.take q) ∧ sumW (ps.take q) ≤ 60000 := by
  have h1 := sum_rngZ (C := 1000) (by omega) ((ps.take q).map fun p => p.f0) (fun x hx => by
    obtain ⟨p, hp, rfl⟩ := List.mem_map.1 hx
    have := h p (List.mem_of_mem_take hp)
    omega)
  rw [List.length_map, List.length_take] at h1
  unfold sumW
  omega
theorem firstE_at {den : Int} {l : List (List Int)} : ∀ {ps : List S71} {i : Nat} (hi : i < ps.length), (∀ p ∈ ps.take i, refRE den l p.f1 = 0) → refRE den l ps[i].f1 ≠ 0 → firstE den l ps = refRE den l ps[i].f1
  | [], i, hi, _, _ => by simp at hi
  | q :: ps, 0, hi, _, h2 => by
    rw [firstE]
    exact if_neg h2
  | q :: ps, i + 1, hi, h1, h2 => by
    rw [firstE, if_pos (h1 q (by simp))]
    exact firstE_at (ps := ps) (i := i) (by simpa using hi) (fun p hp => h1 p (by simp [hp])) h2
theorem C_heap {w W : World} {A : Option Addr} {n : Nat} {xs : List (List Int)} (h : Kd.C (Kd.slice 2 (Kd.int .i64)) w A n xs) (hW : ∀ k, k < w.heap.size → W.heap[k]? = w.heap[k]?) : Kd.C (Kd.slice 2 (Kd.int .i64)) W A n xs := by
  have hs : w.heap.size ≤ W.heap.size := by
    rcases Nat.eq_zero_or_pos w.heap.size with h0 | h0
    · omega
    · have h1 := hW (w.heap.size - 1) (by omega)
      rw [Array.getElem?_eq_getElem (show w.heap.size - 1 < w.heap.size by omega)] at h1
      have := (Array.getElem?_eq_some_iff.1 h1).1
      omega
  have hb : Below w.heap.size w { W with os := w.os, tape := w.tape, output := w.output } := ⟨rfl, rfl, rfl, hs, hW⟩
  have h2 := Kd.C_below h hb
  exact h2
theorem KeepG.under {rs : List Ln} {W0 W1 W2 : World} {v : Value} (hg : Grid W1 W0.heap.size v rs) (hb : Below W0.heap.size W0 W1) (hk : KeepG rs W1 W2) : Below W0.heap.size W0 W2 :=
  ⟨hk.os.trans hb.os, hk.tape.trans hb.tape, hk.output.trans hb.output, Nat.le_trans hb.size hk.size, fun k hlt => (hk.block k (Nat.lt_of_lt_of_le hlt hb.size) (fun r hr e => by
    have := (hg.rows r hr).1
    omega)).trans (hb.block k hlt)⟩
theorem KeepG.then {rs : List Ln} {W W1 W2 : World} (h : KeepG rs W W1) (h2 : KeepG rs W1 W2) : KeepG rs W W2 :=
  ⟨h2.os.trans h.os, h2.tape.trans h.tape, h2.output.trans h.output, Nat.le_trans h.size h2.size, fun k hk hr => (h2.block k (Nat.lt_of_lt_of_le hk h.size) hr).trans (h.block k hk hr)⟩
set_option maxHeartbeats 1500000 in
set_option maxRecDepth 100000 in
theorem checkMix_calls (den : Int) (A : Option Addr) (c : Nat) (l : List (List Int)) (A1 : Option Addr) (c1 : Nat) (ps : List S71) (w : World) (hr : Kd.C (Kd.slice 2 (Kd.int .i64)) w A l.length l) (hcl : l.length ≤ c) (hr1 : Kd.C k71 w A1 ps.length ps) (hc1 : ps.length ≤ c1) :
    Calls Try.prog 47 #[.agg #[.int .i64 den, .slice A l.length c], .slice A1 ps.length c1] w fun e w' => e = .returned (.int .i64 (mixE den l ps)) ∧ Below w.heap.size w w' := by
  have HB := Lib.hid (box1 w (.cells #[.int .i64 den, .slice A l.length c] 39))
  have HK := Lib.hid (blk_new w (.cells #[.int .i64 den, .slice A l.length c] 39))
  have HR := Lib.hid hr
  have HC := Lib.hid hcl
  have HR1 := Lib.hid hr1
  have HC1 := Lib.hid hc1
  have hmx : (ps.length : Int) ≤ 9223372036854775807 := by have := hr1.2.1; omega
  clear hr hcl hr1 hc1
  go_enter Try.func47, Try.ntmps47
  go_upto_region 1 with (fail)
  generalize w.alloc (.cells #[.int .i64 den, .slice A l.length c] 39) = W0 at *
  obtain ⟨gy, eg⟩ : ∃ gy, w.heap.size = gy := ⟨_, rfl⟩
  have HEG := Lib.hid eg
  rw [eg] at HK ⊢
  have y1 : W0.cell? ⟨gy, 1, none⟩ = some (.slice A l.length c) := (blk_cell HK.out 1).trans rfl
  have y0 : W0.cell? ⟨gy, 0, none⟩ = some (.int .i64 den) := (blk_cell HK.out 0).trans rfl
  obtain ⟨E, hE⟩ : ∃ E, tableE den l = E := ⟨_, rfl⟩
  have HT := Lib.hid (checkTable_calls den A c l W0 (Kd.C_below HR.out HB.out) HC.out)
  rw [hE] at HT
  have HE := Lib.hid hE
  clear hE eg
  by_cases h : E = 0
  rotate_left
  · as_aux_lemma =>
    have t1 : (E != 0) = true := bne_iff_ne.mpr h
    have F := Lib.hid (show mixE den l ps = E by unfold mixE; rw [HE.out, if_pos h])
    clear h
    go_wp2_with (go_at_call 28; refine (HT.out).mono ?_; rintro e W1 ⟨rfl, hb⟩; have HB1 := Lib.hid hb; clear hb)
    go_ret
    exact ⟨by rw [F.out]; rfl, below_then HB.out HB.out.size HB1.out⟩
  · subst h
    go_upto_region 4 with (go_at_call 28; refine (HT.out).mono ?_; rintro e W1 ⟨rfl, hb⟩; have HB1 := Lib.hid hb; clear hb)
    have HB2 := Lib.hid (below_then HB.out HB.out.size HB1.out)
    have HK1 := Lib.hid (blk_below HK.out HB1.out)
    clear HT HB1 y0 y1 HB HK
    have F := Lib.hid (show mixE den l ps = if ps.length < 1 ∨ 60 < ps.length then 6 else if ps.any (badW den) = true then 3 else if firstE den l ps ≠ 0 then firstE den l ps else endE den l ps by
      unfold mixE
      rw [if_neg (show ¬ (tableE den l ≠ 0) by simp [HE.out])]
      rfl)
    by_cases q : ps.length < 1 ∨ 60 < ps.length
    · as_aux_lemma =>
      have F1 := Lib.hid (show mixE den l ps = 6 by rw [F.out, if_pos q])
      by_cases q0 : ps.length = 0
      · have e1 : ((ps.length : Int) == 0) = true := beq_iff_eq.mpr (by omega)
        have e2 : (ps.length : Int) = 0 := by omega
        clear q q0
        go_wp2
        go_ret
        exact ⟨by rw [F1.out]; rfl, HB2.out⟩
      · have e1 : ((ps.length : Int) == 0) = false := beq_eq_false_iff_ne.mpr (by omega)
        have e2 : ¬ (ps.length : Int) = 0 := by omega
        have e3 : decide ((ps.length : Int) > 60) = true := decide_eq_true (by omega)
        have e4 : decide (60 < ps.length) = true := decide_eq_true (by omega)
        clear q q0
        go_wp2
        go_ret
        exact ⟨by rw [F1.out]; rfl, HB2.out⟩
    · have e1 : ((ps.length : Int) == 0) = false := beq_eq_false_iff_ne.mpr (by omega)
      have e2 : ¬ (ps.length : Int) = 0 := by omega
      have e3 : decide ((ps.length : Int) > 60) = false := decide_eq_false (by omega)
      have e4 : decide (60 < ps.length) = false := decide_eq_false (by omega)
      have HLN := Lib.hid (show 1 ≤ ps.length ∧ ps.length ≤ 60 by omega)
      replace F := Lib.hid (show mixE den l ps = if ps.any (badW den) = true then 3 else if firstE den l ps ≠ 0 then firstE den l ps else endE den l ps by rw [F.out, if_neg q])
      clear q
      have y0 : W1.cell? ⟨gy, 0, none⟩ = some (.int .i64 den) := (blk_cell HK1.out 0).trans rfl
      have H73 := Lib.hid (ContainsFunc73 74 #[.pointer (some ⟨gy, 0, none⟩)] (badW den) A1 c1 ps W1 (enters_of Try.func74 (by kernel_rfl) rfl) (Kd.C_below HR1.out HB2.out) (badW_lit W1 gy den y0))
      clear y0
      cases hq : ps.any (badW den) with
      | true => as_aux_lemma =>
        rw [hq] at H73
        have F1 := Lib.hid (show mixE den l ps = 3 by rw [F.out, if_pos hq])
        clear hq
        go_wp2_with (go_at_call 73; refine (H73.out).mono ?_; rintro e W2 ⟨rfl, hb⟩; have HB3 := Lib.hid hb; clear hb)
        go_ret
        exact ⟨by rw [F1.out]; rfl, below_then HB2.out HB2.out.size HB3.out⟩
      | false =>
        rw [hq] at H73
        have HBW := Lib.hid hq
        replace F := Lib.hid (show mixE den l ps = if firstE den l ps ≠ 0 then firstE den l ps else endE den l ps by rw [F.out, hq]; rfl)
        clear hq
        go_upto_region 8 with (go_at_call 73; refine (H73.out).mono ?_; rintro e W2 ⟨rfl, hb⟩; have HB3 := Lib.hid hb; clear hb)
        have HB4 := Lib.hid (below_then HB2.out HB2.out.size HB3.out)
        have HK2 := Lib.hid (blk_below HK1.out HB3.out)
        clear HB2 HB3 HK1 H73
        have HD := Lib.hid (Valid.of HE.out)
        have HWT := Lib.hid (badW_none HBW.out)
        go_wp2_with fail
        go_loopg [6, 8, 9, 34] ps.length (fun kq v6 v8 v9 v34 w' => ∃ i : Nat, v34 = .int .i64 i ∧ v6 = .int .i64 (sumW (ps.take i)) ∧ Aside0 (i + kq = ps.length) ∧ Aside0 (∀ p ∈ ps.take i, refRE den l p.f1 = 0) ∧ Aside0 (Below W2.heap.size W2 w'))
        case atStart => exact ⟨0, rfl, rfl, ⟨by omega⟩, ⟨fun p hp => by simp at hp⟩, ⟨Below.refl _ _⟩⟩
        case round =>
          obtain ⟨i, rfl, rfl, HI, HZ, HW⟩ := hrel
          cases gk with
          | succ k1 => as_aux_lemma =>
            have hi : i < ps.length := by have := HI.out; omega
            have hlt : decide (i < ps.length) = true := by simp [hi]
            have hlt2 : decide ((i : Int) < (ps.length : Int)) = true := decide_eq_true (by omega)
            have HBr := Lib.hid (below_then HB4.out HB4.out.size HW.out)
            have hC := Kd.C_below HR1.out HBr.out
            obtain ⟨ad, A0, c0, e0, hc0, hc1, hle0, hC0⟩ := at_T71 hC (i : Int) (by omega) (by omega)
            subst e0
            rw [Int.toNat_natCast] at hc0 hc1
            rw [rd_T71_nat ps i hi] at hc0 hc1 hle0 hC0
            have hsw := sumW_rng2 HD.out.d2 HLN.out.2 HWT.out i
            have hsw2 := sumW_succ hi
            have hpw := HWT.out ps[i] (List.getElem_mem hi)
            have hd2 := HD.out.d2
            have w1 : wrap64 (sumW (ps.take i) + ps[i].f0) = sumW (ps.take (i + 1)) := by rw [hsw2, wrap_id _ (by omega) (by omega)]
            have hfe := firstE_at (den := den) (l := l) hi HZ.out
            have htk : ps.take (i + 1) = ps.take i ++ [ps[i]] := List.take_succ_eq_append_getElem hi
            have HHC := Lib.hid hC0
            have HLE := Lib.hid hle0
            have HFE := Lib.hid hfe
            have HTK := Lib.hid htk
            clear hC hC0 hle0 hfe htk hsw hsw2 hpw hd2
            generalize ps[i] = p at *
            have hi60 : (i : Int) ≤ 60 := by have := HLN.out.2; omega
            have y0 : wr.cell? ⟨gy, 0, none⟩ = some (.int .i64 den) := (blk_cell (blk_below HK2.out HW.out) 0).trans rfl
            have y1 : wr.cell? ⟨gy, 1, none⟩ = some (.slice A l.length c) := (blk_cell (blk_below HK2.out HW.out) 1).trans rfl
            go_upto_region 12 with (fail)
            have HA := Lib.hid (box1 wr (.cells #[.int .i64 p.f0, .slice A0 p.f1.length c0] 71))
            have HN := Lib.hid (blk_new wr (.cells #[.int .i64 p.f0, .slice A0 p.f1.length c0] 71))
            clear hc0 hc1 y0 y1
            generalize wr.alloc (.cells #[.int .i64 p.f0, .slice A0 p.f1.length c0] 71) = W3 at *
            have HW3 := Lib.hid (below_then HW.out HW.out.size HA.out)
            replace HHC := Lib.hid (Kd.C_below HHC.out HA.out)
            clear HA
            generalize wr.heap.size = gp at *
            have HB3 := Lib.hid (below_then HB4.out HB4.out.size HW3.out)
            have y0 : W3.cell? ⟨gy, 0, none⟩ = some (.int .i64 den) := (blk_cell (blk_below HK2.out HW3.out) 0).trans rfl
            have y1 : W3.cell? ⟨gy, 1, none⟩ = some (.slice A l.length c) := (blk_cell (blk_below HK2.out HW3.out) 1).trans rfl
            have y2 : W3.cell? ⟨gp, 0, none⟩ = some (.int .i64 p.f0) := (blk_cell HN.out 0).trans rfl
            have y3 : W3.cell? ⟨gp, 1, none⟩ = some (.slice A0 p.f1.length c0) := (blk_cell HN.out 1).trans rfl
            obtain ⟨E1, hE1⟩ : ∃ E1, refRE den l p.f1 = E1 := ⟨_, rfl⟩
            have H30 := Lib.hid (pole_CheckRounding.calls den A c l A0 c0 p.f1 E1 W3 (Kd.C_below HR.out HB3.out) HC.out HHC.out HLE.out (by unfold pole_CheckRounding.f; rw [rounding_same, hE1]))
            rw [hE1] at HFE
            by_cases q : E1 = 0
            · have t1 : (E1 != 0) = false := by rw [q]; rfl
              subst q
              go_upto_region 15 with (go_at_call 30; refine (H30.out).mono ?_; rintro e W4 ⟨rfl, hb⟩; have HB5 := Lib.hid hb; clear hb)
              have y4 : W4.cell? ⟨gp, 0, none⟩ = some (.int .i64 p.f0) := (blk_cell (blk_below HN.out HB5.out) 0).trans rfl
              clear y0 y1 y2 y3
              go_wp2
              go_roundg k1
              case rel => exact ⟨i + 1, by go_num, by first | rfl | (rw [w1]), ⟨by have := HI.out; omega⟩, ⟨fun x hx => by
                rw [HTK.out, List.mem_append, List.mem_singleton] at hx
                rcases hx with hx | rfl
                · exact HZ.out x hx
                · exact hE1⟩, ⟨below_then HW3.out HW3.out.size HB5.out⟩⟩
              case measure => omega
            · have t1 : (E1 != 0) = true := bne_iff_ne.mpr q
              have F1 := Lib.hid (show mixE den l ps = E1 by
                have h9 := HFE.out q
                rw [F.out, h9, if_pos q])
              clear q
              go_wp2_with (go_at_call 30; refine (H30.out).mono ?_; rintro e W4 ⟨rfl, hb⟩; have HB5 := Lib.hid hb; clear hb)
              go_ret
              exact ⟨by rw [F1.out]; rfl, below_then HB3.out HB3.out.size HB5.out⟩
          | zero =>
            have hi : i = ps.length := by have := HI.out; omega
            have hlt : decide (i < ps.length) = false := by simp [hi]
            have hlt2 : decide ((i : Int) < (ps.length : Int)) = false := decide_eq_false (by omega)
            have HF0 := Lib.hid (show firstE den l ps = 0 from firstE_all (fun p hp => HZ.out p (by rw [hi, List.take_length]; exact hp)))
            have hsm : sumW (ps.take i) = sumW ps := by rw [hi, List.take_length]
            have HPO := Lib.hid (show PartsOk den l ps from ⟨fun p hp => ⟨(HWT.out p hp).1, (HWT.out p hp).2, firstE_zero HF0.out p hp⟩, HLN.out.2⟩)
            replace F := Lib.hid (show mixE den l ps = endE den l ps by rw [F.out, if_neg (by simp [HF0.out])])
            have HBr := Lib.hid (below_then HB4.out HB4.out.size HW.out)
            have HK3 := Lib.hid (blk_below HK2.out HW.out)
            generalize wr = Wq at *
            rw [hsm]
            clear hi hsm HZ HI HF0 HB4 HK2 HW
            have H75 := Lib.hid (copied_calls A c l Wq (Kd.C_below HR.out HBr.out) (by have := HD.out.n6; omega) (fun x hx => by rw [HD.out.eq x hx]; have := HD.out.m0; have := HD.out.m6; omega))
            have y1 : Wq.cell? ⟨gy, 1, none⟩ = some (.slice A l.length c) := (blk_cell HK3.out 1).trans rfl
            go_upto_region 18 with (go_at_call 75; refine (H75.out).mono ?_; rintro e W5 ⟨A5, c5, rs, rfl, hln, hg, hb⟩; have HG5 := Lib.hid hg; have HLS := Lib.hid hln; have HB5 := Lib.hid hb; clear hg hb hln)
            have HBS := Lib.hid (show w.heap.size ≤ Wq.heap.size from HBr.out.size)
            clear H75 y1 hlt hlt2
            go_wp2_with fail
            go_loopg [12, 55] ps.length (fun kq v12 v55 w' => ∃ (i : Nat) (rc : List Ln), v55 = .int .i64 i ∧ Aside0 (i + kq = ps.length) ∧ Aside0 (LeftOk l ps i (lines rc) ∧ dims rc = dims rs) ∧ Aside0 (Grid w' Wq.heap.size (.slice A5 l.length c5) rc) ∧ Aside0 (KeepG rs W5 w'))
            case atStart => exact ⟨0, rs, rfl, ⟨by omega⟩, ⟨by rw [HLS.out]; exact LeftOk.start HE.out, rfl⟩, ⟨HG5.out⟩, ⟨KeepG.refl rs W5⟩⟩
            case round =>
              obtain ⟨i, rc, rfl, HI, HLO, HG, HK⟩ := hrel
              have HBw := Lib.hid (KeepG.under HG5.out HB5.out HK.out)
              have HBq := Lib.hid (below_then HBr.out HBr.out.size HBw.out)
              have HKq := Lib.hid (blk_below HK3.out HBw.out)
              clear HBw HK3 HBr HB5 HG5
              cases gk with
              | succ k1 => as_aux_lemma =>
                have hi : i < ps.length := by have := HI.out; omega
                have hlt : decide (i < ps.length) = true := by simp [hi]
                have hlt2 : decide ((i : Int) < (ps.length : Int)) = true := decide_eq_true (by omega)
                obtain ⟨ad, A0, c0, e0, hc0, hc1, hle0, hC0⟩ := at_T71 HR1.out (i : Int) (by omega) (by omega)
                replace hc0 := cell_in HBq.out hc0
                replace hc1 := cell_in HBq.out hc1
                subst e0
                rw [Int.toNat_natCast] at hc0 hc1
                rw [rd_T71_nat ps i hi] at hc0 hc1 hle0 hC0
                have ho := HPO.out.ok ps[i] (List.getElem_mem hi)
                have hs := shaped_iff.1 (refRE_shaped HE.out ho.2.2)
                have HST := Lib.hid (HLO.out.1.step HE.out HPO.out hi)
                have HL1 := Lib.hid (show ps[i].f1.length = rc.length by rw [hs.1, ← lines_len rc, HLO.out.1.len])
                have HROW := Lib.hid (show ∀ j, j < ps[i].f1.length → (ps[i].f1.getD j []).length = ((lines rc).getD j []).length by
                  intro j hj
                  rw [getD_row hs.2 hj, getD_row HLO.out.1.row (by rw [HLO.out.1.len, ← hs.1]; exact hj)])
                have HLT := Lib.hid (takeI_takeL ps[i].f0 ps[i].f1 rc HL1.out HROW.out)
                have HL100 := Lib.hid (show ps[i].f1.length ≤ 100 by rw [hs.1]; have := HD.out.n6; omega)
                have HM100 := Lib.hid (show ∀ j (h : j < ps[i].f1.length) (h' : j < rc.length), ps[i].f1[j].length = rc[j].l.length ∧ ps[i].f1[j].length ≤ 100 by
                  intro j h1 h2
                  have h3 := HROW.out j h1
                  rw [List.getD_eq_getElem?_getD, List.getElem?_eq_getElem h1, Option.getD_some] at h3
                  have h4 : j < (lines rc).length := by rw [lines_len]; exact h2
                  rw [List.getD_eq_getElem?_getD, List.getElem?_eq_getElem h4, Option.getD_some] at h3
                  have h5 : (lines rc)[j] = rc[j].l := by simp [lines]
                  rw [h5] at h3
                  refine ⟨h3, ?_⟩
                  rw [hs.2 _ (List.getElem_mem h1)]
                  have := HD.out.m6
                  omega)
                have HHC := Lib.hid hC0
                have HLE := Lib.hid hle0
                clear hC0 hle0 ho hs
                generalize ps[i] = p at *
                have hi60 : (i : Int) ≤ 60 := by have := HLN.out.2; omega
                go_upto_region 21 with (fail)
                have HA := Lib.hid (box1 wr (.cells #[.int .i64 p.f0, .slice A0 p.f1.length c0] 71))
                have HN := Lib.hid (blk_new wr (.cells #[.int .i64 p.f0, .slice A0 p.f1.length c0] 71))
                clear hc0 hc1
                generalize wr.alloc (.cells #[.int .i64 p.f0, .slice A0 p.f1.length c0] 71) = W6 at *
                have HG6 := Lib.hid (HG.out.below HA.out)
                have HK6 := Lib.hid (HK.out.below HA.out)
                have HB7 := Lib.hid (below_then HBq.out HBq.out.size HA.out)
                clear HA HG HK
                generalize wr.heap.size = gp at *
                have y2 : W6.cell? ⟨gp, 0, none⟩ = some (.int .i64 p.f0) := (blk_cell HN.out 0).trans rfl
                have y3 : W6.cell? ⟨gp, 1, none⟩ = some (.slice A0 p.f1.length c0) := (blk_cell HN.out 1).trans rfl
                have H76 := Lib.hid (take_calls A5 l.length c5 Wq.heap.size rc p.f0 A0 c0 p.f1 W6 HG6.out (fun W hW => C_heap HHC.out (fun k hk => (hW k (fun r hr e => by
                  have := (HG6.out.rows r hr).1
                  have := HBS.out
                  omega) (Nat.lt_of_lt_of_le hk HB7.out.size)).trans (HB7.out.block k hk))) HL1.out HL100.out HM100.out)
                go_upto_region 22 with (go_at_call 76; refine (H76.out).mono ?_; rintro e W7 ⟨⟨ve, rfl⟩, hg7, hk7⟩; have HG7 := Lib.hid hg7; have HK7 := Lib.hid hk7; clear hg7 hk7)
                clear y2 y3
                go_wp2
                go_roundg k1
                case rel => exact ⟨i + 1, takeI p.f0 0 p.f1 rc, by go_num, ⟨by have := HI.out; omega⟩, ⟨by rw [HLT.out]; exact HST.out, (dims_takeI p.f0 p.f1 0 rc).trans HLO.out.2⟩, ⟨HG7.out⟩, ⟨HK6.out.then (HK7.out.dims HLO.out.2)⟩⟩
                case measure => omega
              | zero => as_aux_lemma =>
                have hi : i = ps.length := by have := HI.out; omega
                have hlt : decide (i < ps.length) = false := by simp [hi]
                have hlt2 : decide ((i : Int) < (ps.length : Int)) = false := decide_eq_false (by omega)
                have HLQ := Lib.hid (show LeftOk l ps ps.length (lines rc) by rw [← hi]; exact HLO.out.1)
                replace F := Lib.hid (F.out.trans (endE_eq HLQ.out))
                clear hi HI HLO
                have y0 : wr.cell? ⟨gy, 0, none⟩ = some (.int .i64 den) := (blk_cell HKq.out 0).trans rfl
                by_cases q : sumW ps = den
                · have t1 : (sumW ps != den) = false := by simp [q]
                  replace F := Lib.hid (show mixE den l ps = if (lines rc).any someOff = true then 14 else 0 by rw [F.out, if_neg (by simp [q])])
                  have h62 := ContainsFunc62 77 #[] someOff A5 c5 (lines rc) wr (enters_of Try.func77 (by kernel_rfl) rfl) HG.out.C (someOff_lit wr)
                  rw [HLQ.out.len] at h62
                  have H62 := Lib.hid h62
                  clear q h62
                  cases ha : (lines rc).any someOff with
                  | true => as_aux_lemma =>
                    rw [ha] at H62
                    have F1 := Lib.hid (show mixE den l ps = 14 by rw [F.out, if_pos ha])
                    clear ha
                    go_wp2_with (go_at_call 62; refine (H62.out).mono ?_; rintro e W7 ⟨rfl, hb⟩; have HB8 := Lib.hid hb; clear hb)
                    go_ret
                    exact ⟨by rw [F1.out]; rfl, below_then HBq.out HBq.out.size HB8.out⟩
                  | false => as_aux_lemma =>
                    rw [ha] at H62
                    have F1 := Lib.hid (show mixE den l ps = 0 by rw [F.out, ha]; rfl)
                    clear ha
                    go_wp2_with (go_at_call 62; refine (H62.out).mono ?_; rintro e W7 ⟨rfl, hb⟩; have HB8 := Lib.hid hb; clear hb)
                    go_ret
                    exact ⟨by rw [F1.out]; rfl, below_then HBq.out HBq.out.size HB8.out⟩
                · have t1 : (sumW ps != den) = true := bne_iff_ne.mpr q
                  have F1 := Lib.hid (show mixE den l ps = 14 by rw [F.out, if_pos q])
                  clear q
                  go_wp2
                  go_ret
                  exact ⟨by rw [F1.out]; rfl, HBq.out⟩
def pole_CheckMix.f (den : Int) (l : List (List Int)) (ps : List S71) : Option Int := some (mixE den l ps)
theorem pole_CheckMix.calls (den : Int) (A : Option Addr) (c : Nat) (l : List (List Int)) (A1 : Option Addr) (c1 : Nat) (ps : List S71) (r : Int) (w : World) (hr : Kd.C (Kd.slice 2 (Kd.int .i64)) w A l.length l) (hcl : l.length ≤ c) (hr1 : Kd.C k71 w A1 ps.length ps) (hc1 : ps.length ≤ c1) (h : pole_CheckMix.f den l ps = some r) :
    Calls Try.prog 47 #[.agg #[.int .i64 den, .slice A l.length c], .slice A1 ps.length c1] w fun e w' => e = .returned (.int .i64 r) ∧ Below w.heap.size w w' := by
  injection h with h
  rw [← h]
  exact checkMix_calls den A c l A1 c1 ps w hr hcl hr1 hc1
end Go.Proofs.Ytcgdbjojjpoegaa.P

/- The average of a mixture; whole tables have one rounding: plain law. -/
namespace Go.Proofs.Ytcgdbjojjpoegaa.P
open Go.RowKit Go.Proofs.YtcgdbjojjpoegaaW.PrintWords Go.Proofs.YtcgdbjojjpoegaaW.PrintLast Go.Proofs.YtcgdbjojjpoegaaW.PrintMore
set_option linter.unusedVariables false
set_option linter.unusedSimpArgs false

theorem pas_len {x : List (List Int)} (h : Tab x) : (pas x).length = amN x.length (rd_L2 x 0).length := by
  unfold pas
  rw [List.length_map, h.len]
  rfl
theorem pas_at {x : List (List Int)} (h : TabS x) {j : Nat} (hj : j < (pas x).length) : (pas x)[j] = paAt x j := by
  have hj2 : j < (bookAm x).length := by unfold pas at hj; rwa [List.length_map] at hj
  rw [← pa_book h j, amAt_nat _ j hj2]
  simp [pas]
/-- What is known of a rounding's amounts. -/
structure RowOk (den : Int) (l x : List (List Int)) : Prop where
  len : (pas x).length = (pas l).length
  tab : Tab x
  at' : ∀ j (h1 : j < (pas l).length) (h2 : j < (pas x).length), (pas x)[j] = paAt x j ∧ (pas l)[j] = paAt l j ∧ 0 ≤ (pas l)[j] ∧ (pas l)[j] ≤ 36000000 ∧ 0 ≤ (pas x)[j] ∧ (pas x)[j] ≤ 37000000 ∧ ((pas l)[j] % den = 0 → (pas x)[j] * den = (pas l)[j])
theorem RowOk.of {den : Int} {l x : List (List Int)} (ht : tableE den l = 0) (hx : refRE den l x = 0) : RowOk den l x := by
  have hv := Valid.of ht
  have hs := refRE_shaped ht hx
  obtain ⟨hg, hn⟩ := (refRE_sh ht hs).1.1 hx
  obtain ⟨htx, hcl, hcm, hce⟩ := hv.tab.coins hs
  have hlen : (pas x).length = (pas l).length := by rw [pas_len htx, pas_len hv.tab, hcl, hcm]
  have hSl : TabS l := ⟨hv.tab, (tableE_upto ht).small (by omega)⟩
  have hSx : TabS x := ⟨htx, Upto.small (C := 36000000) hg (by omega)⟩
  have hne := (near_pa hcl hv.eq hce hv.n0 hv.m0).1 hn
  refine ⟨hlen, htx, fun j h1 h2 => ?_⟩
  have e1 := pas_at hSx h2
  have e2 := pas_at hSl h1
  have hN := hne j (by rw [← pas_len hv.tab]; exact h1)
  rw [← e1, ← e2] at hN
  have hbl : (pas l).length = (bookAm l).length := by simp [pas]
  have hp := (book_base hv.tab (tableE_upto ht) (by omega) (by omega) hv.d1 hv.d2).p0 j (by omega)
  have hpe : (amAt (bookAm l) (j : Int)).pa = (pas l)[j] := by rw [pa_book hSl j, e2]
  rw [hpe] at hp
  have hd1 := hv.d1
  have hd2 := hv.d2
  have hf := flo_le (a := (pas l)[j]) hd1
  have hce := cei_le (a := (pas l)[j]) hd1
  have h3 := hN.1
  have h4 := hN.2
  have hw := hN.whole
  generalize (pas l)[j] = a at *
  generalize (pas x)[j] = b at *
  rw [Int.mul_comm] at h3 h4 hw
  have hb0 : 0 ≤ b := by
    by_cases hb : 0 ≤ b
    · exact hb
    · have := Int.mul_le_mul_of_nonneg_right (show b ≤ -1 by omega) (show 0 ≤ den by omega)
      omega
  have hbd : b ≤ b * den := by
    have := Int.mul_le_mul_of_nonneg_left (show 1 ≤ den by omega) hb0
    omega
  exact ⟨e1, e2, by omega, by omega, hb0, by omega, fun h0 => by
    have := hw (Int.dvd_of_emod_eq_zero h0)
    omega⟩
/-- a mixture's amount, with its weights -/
def hvR (ps : List S71) (j : Nat) : Int := (ps.map fun p => p.f0 * (pas p.f1).getD j 0).sum
theorem hvR_succ {ps : List S71} {q : Nat} (j : Nat) (hq : q < ps.length) : hvR (ps.take (q + 1)) j = hvR (ps.take q) j + ps[q].f0 * (pas ps[q].f1).getD j 0 := by
  unfold hvR
  rw [List.take_succ_eq_append_getElem hq, List.map_append, List.sum_append]
  simp
theorem hvR_rng {den : Int} {l : List (List Int)} {ps : List S71} (ht : tableE den l = 0) (hn : ps.length ≤ 60) (hP : Parts den l (rd_L2 l 0).length den l ps) (q j : Nat) : 0 ≤ hvR (ps.take q) j ∧ hvR (ps.take q) j ≤ 37000000000 * 60 := by
  have hd := (Valid.of ht).d2
  have h1 := sum_rngZ (C := 37000000000) (by omega) ((ps.take q).map fun p => p.f0 * (pas p.f1).getD j 0) (fun x hx => by
    obtain ⟨p, hp, rfl⟩ := List.mem_map.1 hx
    have ho := hP.ok p (List.mem_of_mem_take hp)
    have hr := RowOk.of ht ho.2.2.2
    have hb : 0 ≤ (pas p.f1).getD j 0 ∧ (pas p.f1).getD j 0 ≤ 37000000 := by
      by_cases hj : j < (pas p.f1).length
      · have := hr.at' j (by rw [← hr.len]; exact hj) hj
        rw [List.getD_eq_getElem?_getD, List.getElem?_eq_getElem hj, Option.getD_some]
        omega
      · rw [List.getD_eq_getElem?_getD, List.getElem?_eq_none (by omega)]
        simp
    have h2 := Int.mul_le_mul (show p.f0 ≤ 1000 by omega) hb.2 hb.1 (by omega)
    exact ⟨Int.mul_nonneg (by omega) hb.1, by omega⟩)
  rw [List.length_map, List.length_take] at h1
  unfold hvR
  omega
theorem hvR_end {den : Int} {l : List (List Int)} {ps : List S71} (ht : tableE den l = 0) (hP : Parts den l (rd_L2 l 0).length den l ps) (j : Nat) (hj : j < (pas l).length) : hvR ps j = (pas l)[j] := by
  have hv := Valid.of ht
  have hSl : TabS l := ⟨hv.tab, (tableE_upto ht).small (by omega)⟩
  rw [pas_at hSl hj, ← hP.pa j (by rw [← pas_len hv.tab]; exact hj)]
  unfold hvR
  congr 1
  apply List.map_congr_left
  intro p hp
  have hr := RowOk.of ht (hP.ok p hp).2.2.2
  have hj2 : j < (pas p.f1).length := by rw [hr.len]; exact hj
  rw [List.getD_eq_getElem?_getD, List.getElem?_eq_getElem hj2, Option.getD_some, (hr.at' j hj hj2).1]
/-- the row of sums, in the midst of a part -/
def mid (ps : List S71) (n i k : Nat) : List Int := (List.range n).map fun j => if j < k then hvR (ps.take (i + 1)) j else hvR (ps.take i) j
theorem mid_len (ps : List S71) (n i k : Nat) : (mid ps n i k).length = n := by simp [mid]
theorem mid_at (ps : List S71) (n i k j : Nat) (hj : j < (mid ps n i k).length) : (mid ps n i k)[j] = if j < k then hvR (ps.take (i + 1)) j else hvR (ps.take i) j := by
  simp [mid]
theorem mid_zero (ps : List S71) (n : Nat) : mid ps n 0 0 = List.replicate n 0 := by
  apply List.ext_getElem
  · simp [mid]
  · intro j h1 h2
    rw [mid_at]
    simp [hvR]
theorem mid_next (ps : List S71) (n i : Nat) : mid ps n i n = mid ps n (i + 1) 0 := by
  apply List.ext_getElem
  · simp [mid]
  · intro j h1 h2
    rw [mid_at, mid_at, if_pos (by rw [mid_len] at h1; exact h1), if_neg (by omega)]
theorem mid_set (ps : List S71) (n i k : Nat) (hi : i < ps.length) (hk : k < n) : (mid ps n i k).set k (hvR (ps.take i) k + ps[i].f0 * (pas ps[i].f1).getD k 0) = mid ps n i (k + 1) := by
  apply List.ext_getElem
  · simp [mid]
  · intro j h1 h2
    rw [List.getElem_set, mid_at, mid_at]
    by_cases e : k = j
    · subst e
      rw [if_pos rfl, if_pos (by omega), hvR_succ k hi]
    · rw [if_neg e]
      by_cases h : j < k
      · rw [if_pos h, if_pos (by omega)]
      · rw [if_neg h, if_neg (by omega)]
theorem mid_end {den : Int} {l : List (List Int)} {ps : List S71} (ht : tableE den l = 0) (hP : Parts den l (rd_L2 l 0).length den l ps) : mid ps (pas l).length ps.length 0 = pas l := by
  apply List.ext_getElem
  · simp [mid]
  · intro j h1 h2
    rw [mid_at, if_neg (by omega), List.take_length, hvR_end ht hP j h2]
/-- A table whose amounts are whole has one rounding. -/
theorem whole_one {den : Int} {l x y : List (List Int)} (ht : tableE den l = 0) (hx : refRE den l x = 0) (hy : refRE den l y = 0) (hw : ∀ j (h : j < (pas l).length), (pas l)[j] % den = 0) : x = y := by
  have hv := Valid.of ht
  have hd1 := hv.d1
  have rx := RowOk.of ht hx
  have ry := RowOk.of ht hy
  have hsx := shaped_iff.1 (refRE_shaped ht hx)
  have hsy := shaped_iff.1 (refRE_shaped ht hy)
  have hcell : ∀ r k, r < l.length → k < (rd_L2 l 0).length → (x.getD r []).getD k 0 = (y.getD r []).getD k 0 := by
    intro r k hr hk
    obtain ⟨q0, q1⟩ := pa_cell hv.eq hv.n0 hr hk
    obtain ⟨_, q2⟩ := pa_cell hsx.2 (by have := hv.n0; omega) (show r < x.length by omega) hk
    obtain ⟨_, q3⟩ := pa_cell hsy.2 (by have := hv.n0; omega) (show r < y.length by omega) hk
    have hj : r * (rd_L2 l 0).length + k < (pas l).length := by rw [pas_len hv.tab]; exact q0
    have hjx : r * (rd_L2 l 0).length + k < (pas x).length := by rw [rx.len]; exact hj
    have hjy : r * (rd_L2 l 0).length + k < (pas y).length := by rw [ry.len]; exact hj
    have a1 := rx.at' _ hj hjx
    have a2 := ry.at' _ hj hjy
    have w0 := hw _ hj
    have w1 := a1.2.2.2.2.2.2 w0
    have w2 := a2.2.2.2.2.2.2 w0
    rw [← q2, ← q3, ← a1.1, ← a2.1]
    exact Int.eq_of_mul_eq_mul_right (show den ≠ 0 by omega) (w1.trans w2.symm)
  apply List.ext_getElem
  · rw [hsx.1, hsy.1]
  · intro r h1 h2
    apply List.ext_getElem
    · rw [hsx.2 _ (List.getElem_mem h1), hsy.2 _ (List.getElem_mem h2)]
    · intro k h3 h4
      have := hcell r k (by omega) (by rw [← hsx.2 _ (List.getElem_mem h1)]; exact h3)
      simpa [List.getD, h1, h2, h3, h4] using this
mutual
theorem same_l0 (x : List (List Int)) (h1 : x.length ≤ 6) (h2 : ∀ y ∈ x, y.length ≤ 6) : ∀ (k i : Nat), i ≤ x.length → (x.length - i) * 10 + 1 ≤ k → forecourtlaw09_same.l0 k x x (i : Int) = some true
  | 0, i => fun hi hk => by omega
  | k + 1, i => fun hi hk => by
    rw [forecourtlaw09_same.l0]
    by_cases hlt : i < x.length
    · rw [if_pos (by omega), if_pos (by omega), if_pos (by omega), if_pos rfl]
      exact same_l1 x h1 h2 k i 0 hlt (Nat.zero_le _) (by omega)
    · rw [if_neg (by omega)]
theorem same_l1 (x : List (List Int)) (h1 : x.length ≤ 6) (h2 : ∀ y ∈ x, y.length ≤ 6) : ∀ (k i j : Nat), (hi : i < x.length) → j ≤ 6 → (x.length - i) * 10 ≤ k + j → forecourtlaw09_same.l1 k x x (i : Int) (j : Int) = some true
  | 0, i, j => fun hi hj hk => by omega
  | k + 1, i, j => fun hi hj hk => by
    have h3 := h2 x[i] (List.getElem_mem hi)
    rw [forecourtlaw09_same.l1, if_pos (by omega), if_pos (by omega), rd_L2_nat x i hi]
    by_cases hlt : j < x[i].length
    · rw [if_pos (by omega), if_pos (by omega), if_pos (by omega), if_pos (by omega), if_pos rfl, wrapS j (by omega)]
      exact same_l1 x h1 h2 k i (j + 1) hi (by omega) (by omega)
    · rw [if_neg (by omega), wrapS i (by omega)]
      exact same_l0 x h1 h2 k (i + 1) (by omega) (by omega)
end
theorem same_self (x : List (List Int)) (h1 : x.length ≤ 6) (h2 : ∀ y ∈ x, y.length ≤ 6) (k : Nat) (hk : 100 ≤ k) : forecourtlaw09_same.f k x x = some true := by
  unfold forecourtlaw09_same.f
  rw [if_pos rfl]
  exact same_l0 x h1 h2 k 0 (Nat.zero_le _) (by omega)
/-- whether amounts are whole -/
def wholeB (den : Int) (xs : List Int) : Bool := xs.all fun v => v % den == 0
theorem wholeB_succ {den : Int} {xs : List Int} {j : Nat} (hj : j < xs.length) : wholeB den (xs.take (j + 1)) = (wholeB den (xs.take j) && (xs[j] % den == 0)) := by
  unfold wholeB
  rw [List.take_succ_eq_append_getElem hj, List.all_append]
  simp
theorem wholeB_at {den : Int} {xs : List Int} (h : wholeB den xs = true) (j : Nat) (hj : j < xs.length) : xs[j] % den = 0 := by
  unfold wholeB at h
  rw [List.all_eq_true] at h
  simpa using h xs[j] (List.getElem_mem hj)
end Go.Proofs.Ytcgdbjojjpoegaa.P

namespace Go.Proofs.Ytcgdbjojjpoegaa.P
open Go.RowKit Go.Shelf Go.Proofs.YtcgdbjojjpoegaaW.PrintWords Go.Proofs.YtcgdbjojjpoegaaW.PrintLast Go.Proofs.YtcgdbjojjpoegaaW.PrintMore Go.Proofs.YtcgdbjojjpoegaaM Go.Proofs.YtcgdbjojjpoegaaR
set_option linter.unusedVariables false
set_option linter.unusedSimpArgs false
set_option maxRecDepth 100000

def average14.T18 : Bool × List (List Nat × List Nat) := (true, [([], []), ([], []), ([0, 1], [0, 1]), ([2], [2]), ([], []), ([], []), ([4, 5], [4, 5]), ([6], [6]), ([7], [7]), ([], []), ([], []), ([9, 10], [9, 10]), ([11], [11]), ([8, 12], [8, 12]), ([3, 13], [3, 13]), ([0, 1, 0, 1, 2, 3, 4, 5, 6, 7, 8, 9, 10, 11, 12, 13, 14], [0, 1]), ([15, 14, 0, 1, 2, 3, 4, 5, 6, 7, 8, 9, 10, 11, 12, 13, 14], [14, 15])])
def average14.B18 : List Nat := [0, 0, 3, 7, 0, 0, 48, 112, 240, 0, 0, 1536, 3584, 8176, 16383, 32767, 65535]
theorem average14.tab18 : rtab .any (opsOf Try.f14 18) = average14.T18 := by kernel_rfl
theorem average14.bits18 : waitsOk average14.T18.2 average14.B18 = true := by kernel_rfl
/-- What is read all along: a table, and another one's lines. -/
structure LV (w W : World) (gy : Nat) (den : Int) (A : Option Addr) (c : Nat) (l : List (List Int)) (A1 : Option Addr) (c1 : Nat) (g : List (List Int)) : Prop where
  y : W.heap[gy]? = some (.cells #[.int .i64 den, .slice A l.length c] 39 (0, 0))
  C : Kd.C (Kd.slice 2 (Kd.int .i64)) W A l.length l
  hc : l.length ≤ c
  C1 : Kd.C (Kd.slice 2 (Kd.int .i64)) W A1 g.length g
  hc1 : g.length ≤ c1
  g : Below w.heap.size w W
theorem LV.below {w W W' : World} {gy : Nat} {den : Int} {A : Option Addr} {c : Nat} {l : List (List Int)} {A1 : Option Addr} {c1 : Nat} {g : List (List Int)} (h : LV w W gy den A c l A1 c1 g) (hb : Below W.heap.size W W') : LV w W' gy den A c l A1 c1 g :=
  ⟨blk_below h.y hb, Kd.C_below h.C hb, h.hc, Kd.C_below h.C1 hb, h.hc1, below_then h.g h.g.size hb⟩
theorem LV.init (w : World) (den : Int) (A : Option Addr) (c : Nat) (l : List (List Int)) (A1 : Option Addr) (c1 : Nat) (g : List (List Int)) (hC : Kd.C (Kd.slice 2 (Kd.int .i64)) w A l.length l) (hc : l.length ≤ c) (hC1 : Kd.C (Kd.slice 2 (Kd.int .i64)) w A1 g.length g) (hc1 : g.length ≤ c1) :
    LV w (w.alloc (.cells #[.int .i64 den, .slice A l.length c] 39)) w.heap.size den A c l A1 c1 g :=
  ⟨blk_new _ _, Kd.C_below hC (box1 _ _), hc, Kd.C_below hC1 (box1 _ _), hc1, box1 _ _⟩
/-- No block but g has turned. -/
def Only (g : Nat) (W W' : World) : Prop := ∀ k, k < W.heap.size → k ≠ g → W'.heap[k]? = W.heap[k]?
theorem Only.below {g : Nat} {W W1 W2 : World} (h : Only g W W1) (hs : W.heap.size ≤ W1.heap.size) (hb : Below W1.heap.size W1 W2) : Only g W W2 := fun k hk hg => (hb.block k (Nat.lt_of_lt_of_le hk hs)).trans (h k hk hg)
theorem Only.set {g : Nat} {W W1 : World} (h : Only g W W1) (i : Nat) (v : Value) : Only g W (W1.setCell ⟨g, i, none⟩ v) := fun k hk hg => (Below.heap_setCell W1 ⟨g, i, none⟩ v k hg).trans (h k hk hg)
theorem Only.cell {g : Nat} {W W1 : World} {a : Addr} {v : Value} (h : Only g W W1) (ha : a.block ≠ g) (hc : W.cell? a = some v) : W1.cell? a = some v := by
  have h1 := h a.block (World.block_lt_of_cell? W a hc) ha
  unfold World.cell? at hc ⊢
  rw [h1]
  exact hc
set_option maxHeartbeats 8000000 in
set_option maxRecDepth 100000 in
theorem averageW (den : Int) (A : Option Addr) (c : Nat) (l : List (List Int)) (A1 : Option Addr) (c1 : Nat) (g : List (List Int)) (w : World) (hr : Kd.C (Kd.slice 2 (Kd.int .i64)) w A l.length l) (hc : l.length ≤ c) (hr1 : Kd.C (Kd.slice 2 (Kd.int .i64)) w A1 g.length g) (hc1 : g.length ≤ c1) :
    Calls Try.prog 14 #[.agg #[.int .i64 den, .slice A l.length c], .slice A1 g.length c1] w fun e w' => e = .returned (.bool true) ∧ Below w.heap.size w w' := by
  obtain ⟨F, hfe, hF⟩ := table_eq den l
  obtain ⟨G, hge⟩ := longT g 1000 (by omega)
  have HQ := Lib.hid (LV.init w den A c l A1 c1 g hr hc hr1 hc1)
  have HFE := Lib.hid hfe
  have HGE := Lib.hid hge
  clear hfe hge hr hc hr1 hc1
  go_enter Try.func14, Try.ntmps14
  go_upto_region 1 with (fail)
  generalize w.alloc (.cells #[.int .i64 den, .slice A l.length c] 39) = W0 at *
  obtain ⟨gy, eg0⟩ : ∃ gy, w.heap.size = gy := ⟨_, rfl⟩
  rw [eg0] at HQ ⊢
  have y0 : W0.cell? ⟨gy, 0, none⟩ = some (.int .i64 den) := (blk_cell HQ.out.y 0).trans rfl
  have y1 : W0.cell? ⟨gy, 1, none⟩ = some (.slice A l.length c) := (blk_cell HQ.out.y 1).trans rfl
  cases F with
  | false => as_aux_lemma =>
    go_wp2_with (first
      | (go_at_call 40; refine (forecourtlaw09_table.calls 1000 den A c l false _ HQ.out.C HQ.out.hc HFE.out).mono ?_; rintro e W1 ⟨rfl, hb⟩; have HB := Lib.hid hb; clear hb)
      | (go_at_call 15; refine (works_calls _).mono ?_; rintro e W2 ⟨rfl, hb⟩; have HB2 := Lib.hid hb; clear hb))
    go_ret
    exact ⟨rfl, by rw [← eg0] at *; exact (HQ.out.below HB.out).g.trans (HB2.out.mono (Nat.le_trans HQ.out.g.size HB.out.size))⟩
  | true =>
    cases G with
    | true => as_aux_lemma =>
      go_wp2_with (first
        | (go_at_call 40; refine (forecourtlaw09_table.calls 1000 den A c l true _ HQ.out.C HQ.out.hc HFE.out).mono ?_; rintro e W1 ⟨rfl, hb⟩; have HB := Lib.hid hb; clear hb; replace HQ := Lib.hid (HQ.out.below HB.out))
        | (go_at_call 27; refine (forecourtlaw09_long.calls 1000 A1 c1 g true _ HQ.out.C1 HQ.out.hc1 HGE.out).mono ?_; rintro e W2 ⟨rfl, hb⟩; have HB1 := Lib.hid (drawn_below hb); clear hb)
        | (go_at_call 15; refine (works_calls _).mono ?_; rintro e W3 ⟨rfl, hb⟩; have HB2 := Lib.hid hb; clear hb))
      go_ret
      exact ⟨rfl, by rw [← eg0] at *; have h9 := HQ.out.below HB1.out; exact below_then h9.g h9.g.size HB2.out⟩
    | false =>
      have ht := hF rfl
      have HT := Lib.hid ht
      have HV := Lib.hid (Valid.of ht)
      obtain ⟨am, hs1, hD⟩ := settle_done ht
      have hR : pole_Round.f den l = some (coinsOf den l am, 0) := by
        unfold pole_Round.f pole_CheckTable.f pole_round.f
        rw [Option.bind_some, if_pos ht, if_pos ht, hs1]
        rfl
      have hRE := hD.round ht
      obtain ⟨_, _, hrl, _⟩ := hD.tab
      generalize coinsOf den l am = r at *
      have HR := Lib.hid hR
      have HRE := Lib.hid hRE
      have HRL := Lib.hid hrl
      obtain ⟨ps, hm, hn1, hn2, hP⟩ := pole_Mix_eq ht
      have HM := Lib.hid hm
      have HPP := Lib.hid hP
      have HN := Lib.hid (And.intro hn1 hn2)
      have HME := Lib.hid (mixE_parts ht hn1 hn2 hP)
      clear hF ht hs1 hD hR hRE hm hP hn1 hn2 hrl
      go_upto_region 3 with (first
        | (go_at_call 40; refine (forecourtlaw09_table.calls 1000 den A c l true _ HQ.out.C HQ.out.hc HFE.out).mono ?_; rintro e W1 ⟨rfl, hb⟩; have HB := Lib.hid hb; clear hb; replace HQ := Lib.hid (HQ.out.below HB.out))
        | (go_at_call 27; refine (forecourtlaw09_long.calls 1000 A1 c1 g false _ HQ.out.C1 HQ.out.hc1 HGE.out).mono ?_; rintro e W2 ⟨rfl, hb⟩; have HB1 := Lib.hid (drawn_below hb); clear hb))
      clear HFE HGE y0 y1 HB
      replace HQ := Lib.hid (HQ.out.below HB1.out)
      clear HB1
      have y0 : W2.cell? ⟨gy, 0, none⟩ = some (.int .i64 den) := (blk_cell HQ.out.y 0).trans rfl
      have y1 : W2.cell? ⟨gy, 1, none⟩ = some (.slice A l.length c) := (blk_cell HQ.out.y 1).trans rfl
      go_upto_region 4 with (go_at_call 49; refine (pole_Mix.calls den A c l ps 0 W2 HQ.out.C HQ.out.hc HM.out).mono ?_; rintro e W3 ⟨vr, rfl, ho, hb⟩; obtain ⟨Ap, np, cp, hv_⟩ : ∃ A n c, vr = .slice A n c := (by obtain ⟨A9, c9, h9⟩ := Kd.R_slice ho; exact ⟨_, _, _, h9⟩); subst hv_; have HPo := Lib.hid (Rd.of ho); have HB := Lib.hid hb; clear ho hb)
      clear HM
      clear y0 y1
      replace HQ := Lib.hid (HQ.out.below HB.out)
      clear HB
      have hnp := HPo.out.hn
      subst hnp
      have y0 : W3.cell? ⟨gy, 0, none⟩ = some (.int .i64 den) := (blk_cell HQ.out.y 0).trans rfl
      have y1 : W3.cell? ⟨gy, 1, none⟩ = some (.slice A l.length c) := (blk_cell HQ.out.y 1).trans rfl
      have HK1 := Lib.hid (forecourtref09_CheckMix.calls 5000 den A c l Ap cp ps 0 W3 HQ.out.C HQ.out.hc HPo.out.C HPo.out.hc (by rw [refCM den l ps 5000 (by omega), HME.out]))
      go_upto_region 6 with (first
        | (go_at_call 48; refine (HK1.out).mono ?_; rintro e W4 ⟨rfl, hb⟩; have HB := Lib.hid hb; clear hb; replace HQ := Lib.hid (HQ.out.below HB.out); replace HPo := Lib.hid (HPo.out.below HB.out); have z0 : W4.cell? ⟨gy, 0, none⟩ = some (.int .i64 den) := (blk_cell HQ.out.y 0).trans rfl; have z1 : W4.cell? ⟨gy, 1, none⟩ = some (.slice A l.length c) := (blk_cell HQ.out.y 1).trans rfl)
        | (go_at_call 47; refine (pole_CheckMix.calls den A c l Ap cp ps 0 W4 HQ.out.C HQ.out.hc HPo.out.C HPo.out.hc (by unfold pole_CheckMix.f; rw [HME.out])).mono ?_; rintro e W5 ⟨rfl, hb⟩; have HB5 := Lib.hid hb; clear hb))
      clear HK1 HME HB y0 y1 z0 z1
      replace HQ := Lib.hid (HQ.out.below HB5.out)
      replace HPo := Lib.hid (HPo.out.below HB5.out)
      clear HB5
      have y0 : W5.cell? ⟨gy, 0, none⟩ = some (.int .i64 den) := (blk_cell HQ.out.y 0).trans rfl
      have y1 : W5.cell? ⟨gy, 1, none⟩ = some (.slice A l.length c) := (blk_cell HQ.out.y 1).trans rfl
      have HS := Lib.hid (show forecourtref09_Sums.f 1000 l = some (pas l) from refSums HV.out.tab 1000 (by omega))
      go_upto_region 7 with (go_at_call 42; refine (forecourtref09_Sums.calls 1000 A c l (pas l) W5 HQ.out.C HQ.out.hc HS.out).mono ?_; rintro e W6 ⟨va, rfl, ho, hb⟩; obtain ⟨Aa, na, ca, hv_⟩ : ∃ A n c, va = .slice A n c := (by obtain ⟨A9, c9, h9⟩ := Kd.R_slice ho; exact ⟨_, _, _, h9⟩); subst hv_; have HOa := Lib.hid (Rd.of ho); have HB := Lib.hid hb; clear ho hb)
      clear HS
      clear y0 y1
      replace HQ := Lib.hid (HQ.out.below HB.out)
      replace HPo := Lib.hid (HPo.out.below HB.out)
      clear HB
      have hna := HOa.out.hn
      subst hna
      have hle := HV.out.tab.le100
      have hpl : (pas l).length = (bookAm l).length := by simp [pas]
      have hn100 : (pas l).length ≤ 100 := by omega
      have HN100 := Lib.hid hn100
      have hn100' : ((pas l).length : Int) ≤ 100 := by omega
      obtain ⟨cs, hmk, hcs1, hcs2⟩ := make48 (pas l).length (by omega)
      clear hle hpl hn100
      have HMZ := Lib.hid (mid_zero ps (pas l).length)
      have HME := Lib.hid (mid_end HT.out HPP.out)
      have HNN := Lib.hid (show ∀ j (h : j < (pas l).length), 0 ≤ (pas l)[j] from fun j h => by
        have h0 := RowOk.of HT.out HRE.out
        have h1 := h0.at' j h (by rw [h0.len]; exact h)
        omega)
      generalize hla : pas l = la at *
      have HLA := Lib.hid hla
      clear hla
      go_upto_region 8 with (fail)
      have HROW := Lib.hid (show RowC (W6.alloc (.cells cs 2)) W6.heap.size 2 la.length (mid ps la.length 0 0) from ⟨⟨cs, blk_new _ _, hcs1, fun j hj => by rw [mid_len] at hj; rw [hcs2 j hj]; congr 2; rw [mid_at, if_neg (by omega)]; simp [hvR]⟩, by rw [mid_len]; exact Nat.le_refl _, by have : maxLen = 9223372036854775807 := rfl; have := HN100.out; omega⟩)
      have HBW := Lib.hid (below_alloc (Below.refl W6.heap.size W6) (.cells cs 2))
      clear hmk hcs1 hcs2 HMZ
      generalize W6.alloc (.cells cs 2) = W7 at *
      obtain ⟨gh, egh⟩ : ∃ gh, W6.heap.size = gh := ⟨_, rfl⟩
      rw [egh] at HROW ⊢
      have HGH := Lib.hid egh
      clear egh
      have hmx : (ps.length : Int) ≤ 60 := by have := HN.out; omega
      go_upto_region 10 with (fail)
      go_loopg [10, 11, 12] ps.length (fun kq v10 v11 v12 w' => ∃ i : Nat, v10 = .int .i64 i ∧ Aside0 (i + kq = ps.length) ∧ Aside0 (RowC w' gh 2 la.length (mid ps la.length i 0)) ∧ Aside0 (Below W6.heap.size W6 w'))
      case atStart => exact ⟨0, rfl, ⟨by omega⟩, ⟨HROW.out⟩, ⟨HBW.out⟩⟩
      case round =>
        clear HROW HBW
        obtain ⟨i, rfl, HI, HW, HB6⟩ := hrel
        cases gk with
        | succ k1 => as_aux_lemma =>
          have hi : i < ps.length := by have := HI.out; omega
          have hlt : decide (i < ps.length) = true := by simp [hi]
          have hlt2 : decide ((i : Int) < (ps.length : Int)) = true := decide_eq_true (by omega)
          obtain ⟨ad, A0, c0, e0, hc0, hc1, hle0, hC0⟩ := at_T71 HPo.out.C (i : Int) (by omega) (by omega)
          subst e0
          rw [Int.toNat_natCast] at hc0 hc1
          rw [rd_T71_nat ps i hi] at hc0 hc1 hle0 hC0
          have hpo := HPP.out.ok ps[i] (List.getElem_mem hi)
          have HRO := Lib.hid (RowOk.of HT.out hpo.2.2.2)
          have HMS := Lib.hid (fun k (hk : k < la.length) => mid_set ps la.length i k hi hk)
          have HSC := Lib.hid (fun j => hvR_succ j hi)
          have HSX := Lib.hid (show forecourtref09_Sums.f 1000 ps[i].f1 = some (pas ps[i].f1) from refSums HRO.out.tab 1000 (by omega))
          have hf0 : 1 ≤ ps[i].f0 ∧ ps[i].f0 ≤ 1000 := ⟨hpo.1, by have := HV.out.d2; omega⟩
          have HXL := Lib.hid (show (pas ps[i].f1).length = la.length by rw [HRO.out.len, HLA.out])
          have HXB := Lib.hid (show ∀ j (h : j < (pas ps[i].f1).length), 0 ≤ (pas ps[i].f1)[j] ∧ (pas ps[i].f1)[j] ≤ 37000000 from fun j h => by
            have h1 := HRO.out.at' j (by rw [← HRO.out.len]; exact h) h
            omega)
          have HF0 := Lib.hid hf0
          have HC0 := Lib.hid hc0
          have HC1 := Lib.hid hc1
          have HL0 := Lib.hid hle0
          have HCC := Lib.hid hC0
          clear hC0 hle0 hc0 hpo hf0 HRO
          have hc1' := cell_in HB6.out hc1
          clear hc1
          generalize hpi : ps[i] = p at *
          clear hpi
          go_upto_region 13 with (go_at_call 42; refine (forecourtref09_Sums.calls 1000 A0 c0 p.f1 (pas p.f1) wr (Kd.C_below HCC.out HB6.out) HL0.out HSX.out).mono ?_; rintro e W8 ⟨va, rfl, ho, hb⟩; obtain ⟨Ax, nx, cx, hv_⟩ : ∃ A n c, va = .slice A n c := (by obtain ⟨A9, c9, h9⟩ := Kd.R_slice ho; exact ⟨_, _, _, h9⟩); subst hv_; have HOx := Lib.hid (Rd.of ho); have HBX := Lib.hid (show ∀ k, (Value.slice Ax nx cx).ownBlock = some k → wr.heap.size ≤ k from by obtain ⟨_, h9⟩ := Kd.R_own ho; exact fun k hk => own_base h9 k hk); have HB := Lib.hid hb; clear ho hb)
          clear hc1' HSX HCC HL0 HC1
          have HW8 := Lib.hid (HW.out.below HB.out HW.out.lt)
          have HB8 := Lib.hid (below_then HB6.out HB6.out.size HB.out)
          have HBG := Lib.hid (show ∀ k, (Value.slice Ax nx cx).ownBlock = some k → k ≠ gh from fun k hk e => by
            have := HBX.out k hk
            have := HW.out.lt
            omega)
          clear HW HB6 HB HBX
          have hnx := HOx.out.hn.trans HXL.out
          subst hnx
          generalize pas p.f1 = xb at *
          generalize p.f0 = f0 at *
          have t1 : ((la.length : Int) != (la.length : Int)) = false := bne_self_eq_false _
          go_upto_region 16 with (fail)
          go_loopg [12] la.length (fun kq v12 w' => ∃ j : Nat, v12 = .int .i64 j ∧ Aside0 (j + kq = la.length) ∧ Aside0 (RowC w' gh 2 la.length (mid ps la.length i j)) ∧ Aside0 (Below W6.heap.size W6 w') ∧ Aside0 (Only gh W8 w' ∧ W8.heap.size ≤ w'.heap.size))
          case atStart => exact ⟨0, rfl, ⟨by omega⟩, ⟨HW8.out⟩, ⟨HB8.out⟩, ⟨fun k _ _ => rfl, Nat.le_refl _⟩⟩
          case round =>
            clear HW8 HB8
            obtain ⟨j, rfl, HJ, HR2, HB9, HO9⟩ := hrel
            cases gk with
            | zero => as_aux_lemma =>
              have hj : j = la.length := by have := HJ.out; omega
              have hlt : decide (j < la.length) = false := by simp [hj]
              have hlt2 : decide ((j : Int) < (la.length : Int)) = false := decide_eq_false (by omega)
              have HR3 := Lib.hid (show RowC wr gh 2 la.length (mid ps la.length (i + 1) 0) by rw [← mid_next]; rw [← hj]; have h9 := HR2.out; rw [hj] at h9 ⊢; exact h9)
              clear hj HR2
              go_wp2
              go_roundg k1
              case rel => exact ⟨i + 1, by go_num, ⟨by have := HI.out; omega⟩, ⟨HR3.out⟩, ⟨HB9.out⟩⟩
              case measure => omega
            | succ k2 => as_aux_lemma =>
              have hj : j < la.length := by have := HJ.out; omega
              have hlt : decide (j < la.length) = true := by simp [hj]
              have hlt2 : decide ((j : Int) < (la.length : Int)) = true := decide_eq_true (by omega)
              have hj3 : (j : Int) < (la.length : Int) := by omega
              have hi3 : (i : Int) < (ps.length : Int) := by omega
              have hjx : j < xb.length := by rw [HXL.out]; exact hj
              have z0 := HR2.out.cell j (by rw [mid_len]; exact hj)
              rw [mid_at, if_neg (by omega)] at z0
              obtain ⟨adx, eB, hb⟩ := Kd.at_int HOx.out.C (j : Int) (by omega) (by omega)
              subst eB
              rw [Int.toNat_natCast, rd_nat xb j hjx] at hb
              have hbk : (adx.add j).block = adx.block := by cases j <;> rfl
              have z1 := HO9.out.1.cell (a := adx.add j) (by rw [hbk]; exact HBG.out _ rfl) hb
              clear hbk
              have z2 := cell_in HB9.out HC0.out
              have hcr := hvR_rng HT.out HN.out.2 HPP.out i j
              have hxr := HXB.out j hjx
              have hfr := HF0.out
              have hms := HMS.out j hj
              have hgd : xb.getD j 0 = xb[j] := by simp [List.getD, hjx]
              rw [hgd] at hms
              have hj100 : (j : Int) ≤ 100 := by have := HN100.out; omega
              clear hb hgd hlt
              generalize xb[j] = xj at *
              generalize hvR (ps.take i) j = cur at *
              have hm1 := Int.mul_le_mul hfr.2 hxr.2 hxr.1 (by omega)
              have hm2 := Int.mul_nonneg (show 0 ≤ f0 by omega) hxr.1
              have w1 : wrap64 (f0 * xj) = f0 * xj := wrap_id _ (by omega) (by omega)
              have w2 : wrap64 (cur + f0 * xj) = cur + f0 * xj := wrap_id _ (by omega) (by omega)
              clear hcr hxr hfr hm1 hm2
              obtain ⟨nv, hnv⟩ : ∃ nv, cur + f0 * xj = nv := ⟨_, rfl⟩
              rw [hnv] at hms w2
              have HMJ := Lib.hid hms
              clear hms
              have HZF := Lib.hid (HR2.out.fz j)
              go_upto_region 18 with (fail)
              obtain ⟨Wd, ed⟩ : ∃ Wd, wr.drew = Wd := ⟨_, rfl⟩
              have hd : Below wr.heap.size wr Wd := by rw [← ed]; exact below_drew (Below.refl _ _)
              have HR4 := Lib.hid (show RowC (Wd.setCell ⟨gh, j, none⟩ (.int .i64 nv)) gh 2 la.length (mid ps la.length i (j + 1)) by
                have h9 := (HR2.out.below hd HR2.out.lt).set j (by rw [mid_len]; exact hj) nv
                rwa [HMJ.out] at h9)
              have HB10 := Lib.hid (show Below W6.heap.size W6 (Wd.setCell ⟨gh, j, none⟩ (.int .i64 nv)) from below_grown (below_then HB9.out HB9.out.size hd) (grown_set Wd gh j (.int .i64 nv)) (fun r hr => by injection hr with hr; have := HGH.out; omega))
              have HO10 := Lib.hid (show Only gh W8 (Wd.setCell ⟨gh, j, none⟩ (.int .i64 nv)) ∧ W8.heap.size ≤ (Wd.setCell ⟨gh, j, none⟩ (.int .i64 nv)).heap.size from ⟨(HO9.out.1.below HO9.out.2 hd).set j _, Nat.le_trans (Nat.le_trans HO9.out.2 hd.size) (grown_set Wd gh j (.int .i64 nv)).size⟩)
              have y0 := cell_in hd z0
              have y1 := cell_in hd z1
              have y2 := cell_in hd z2
              have zf : Wd.frozen? ⟨gh, j, none⟩ = false := (HR2.out.below hd HR2.out.lt).fz j
              clear z0 z1 z2 HR2 HB9 HO9 HMJ HZF hlt2
              refine start_ (n := 17) (S := fun w' => w'.cell? ⟨gh, j, none⟩ = some (.int .i64 cur) ∧ w'.cell? (ad.add (i * 2)) = some (.int .i64 f0) ∧ w'.cell? (adx.add j) = some (.int .i64 xj)) (ds := [16]) #[false, false, false, false, false, false, false, false, false, false, false, false, false, false, false, false, false] (by kernel_rfl) rfl rfl (by rw [ed]; exact ⟨y0, y2, y1⟩) (fun hHeld => ?_); refine with_tabW average14.tab18 average14.bits18 (fun HT_ HW_ => ?_)
              rw [ed] at hHeld ⊢
              refine pure_ (i := 0) (N := some 74) (v := ?_) (a' := ?_) #[true, false, false, false, false, false, false, false, false, false, false, false, false, false, false, false, false] rfl rfl (any_of HT_.out (by kernel_rfl)) (fun _ _ _ h => h) (Or.inl ⟨by rfl, ?_⟩) ?_ ?_
              rotate_left
              · intro w'
                go_simp
                with_reducible rfl
              rotate_left
              · simp only [Act.put, List.setIfInBounds_toArray, List.set_cons_zero, List.set_cons_succ, i64_w, i32_w]
                rfl
              refine pure_ (i := 1) (N := some 75) (v := ?_) (a' := ?_) #[true, true, false, false, false, false, false, false, false, false, false, false, false, false, false, false, false] rfl rfl (any_of HT_.out (by kernel_rfl)) (fun _ _ _ h => h) (Or.inl ⟨by rfl, ?_⟩) ?_ ?_
              rotate_left
              · intro w'
                go_simp
                with_reducible rfl
              rotate_left
              · simp only [Act.put, List.setIfInBounds_toArray, List.set_cons_zero, List.set_cons_succ, i64_w, i32_w]
                rfl
              refine pure_ (i := 2) (N := some 76) (v := ?_) (a' := ?_) #[true, true, true, false, false, false, false, false, false, false, false, false, false, false, false, false, false] rfl rfl (any_of HT_.out (by kernel_rfl)) (fun _ _ _ h => h) (Or.inl ⟨by rfl, ?_⟩) ?_ ?_
              rotate_left
              · intro w'
                go_simp
                with_reducible rfl
              rotate_left
              · simp only [Act.put, List.setIfInBounds_toArray, List.set_cons_zero, List.set_cons_succ, i64_w, i32_w]
                rfl
              refine take_ (i := 3) (N := some 77) (v := ?_) (a' := ?_) #[true, true, true, true, false, false, false, false, false, false, false, false, false, false, false, false, false] rfl rfl (take_ofW HT_.out HW_.out (by kernel_rfl)) (fun _ _ _ h => h) (Or.inl ⟨by rfl, ?_⟩) hHeld ?_ ?_
              rotate_left
              · rintro w' ⟨s0, s1, s2⟩
                go_simp
                with_reducible rfl
              rotate_left
              · simp only [Act.put, List.setIfInBounds_toArray, List.set_cons_zero, List.set_cons_succ, i64_w, i32_w]
                rfl
              refine pure_ (i := 4) (N := some 78) (v := ?_) (a' := ?_) #[true, true, true, true, true, false, false, false, false, false, false, false, false, false, false, false, false] rfl rfl (any_of HT_.out (by kernel_rfl)) (fun _ _ _ h => h) (Or.inl ⟨by rfl, ?_⟩) ?_ ?_
              rotate_left
              · intro w'
                go_simp
                with_reducible rfl
              rotate_left
              · simp only [Act.put, List.setIfInBounds_toArray, List.set_cons_zero, List.set_cons_succ, i64_w, i32_w]
                rfl
              refine pure_ (i := 5) (N := some 79) (v := ?_) (a' := ?_) #[true, true, true, true, true, true, false, false, false, false, false, false, false, false, false, false, false] rfl rfl (any_of HT_.out (by kernel_rfl)) (fun _ _ _ h => h) (Or.inl ⟨by rfl, ?_⟩) ?_ ?_
              rotate_left
              · intro w'
                go_simp
                with_reducible rfl
              rotate_left
              · simp only [Act.put, List.setIfInBounds_toArray, List.set_cons_zero, List.set_cons_succ, i64_w, i32_w]
                rfl
              refine pure_ (i := 6) (N := some 80) (v := ?_) (a' := ?_) #[true, true, true, true, true, true, true, false, false, false, false, false, false, false, false, false, false] rfl rfl (any_of HT_.out (by kernel_rfl)) (fun _ _ _ h => h) (Or.inl ⟨by rfl, ?_⟩) ?_ ?_
              rotate_left
              · intro w'
                go_simp
                with_reducible rfl
              rotate_left
              · simp only [Act.put, List.setIfInBounds_toArray, List.set_cons_zero, List.set_cons_succ, i64_w, i32_w]
                rfl
              refine pure_ (i := 7) (N := some 81) (v := ?_) (a' := ?_) #[true, true, true, true, true, true, true, true, false, false, false, false, false, false, false, false, false] rfl rfl (any_of HT_.out (by kernel_rfl)) (fun _ _ _ h => h) (Or.inl ⟨by rfl, ?_⟩) ?_ ?_
              rotate_left
              · intro w'
                go_simp
                with_reducible rfl
              rotate_left
              · simp only [Act.put, List.setIfInBounds_toArray, List.set_cons_zero, List.set_cons_succ, i64_w, i32_w]
                rfl
              refine take_ (i := 8) (N := some 82) (v := ?_) (a' := ?_) #[true, true, true, true, true, true, true, true, true, false, false, false, false, false, false, false, false] rfl rfl (take_ofW HT_.out HW_.out (by kernel_rfl)) (fun _ _ _ h => h) (Or.inl ⟨by rfl, ?_⟩) hHeld ?_ ?_
              rotate_left
              · rintro w' ⟨s0, s1, s2⟩
                go_simp
                with_reducible rfl
              rotate_left
              · simp only [Act.put, List.setIfInBounds_toArray, List.set_cons_zero, List.set_cons_succ, i64_w, i32_w]
                rfl
              refine pure_ (i := 9) (N := some 83) (v := ?_) (a' := ?_) #[true, true, true, true, true, true, true, true, true, true, false, false, false, false, false, false, false] rfl rfl (any_of HT_.out (by kernel_rfl)) (fun _ _ _ h => h) (Or.inl ⟨by rfl, ?_⟩) ?_ ?_
              rotate_left
              · intro w'
                go_simp
                with_reducible rfl
              rotate_left
              · simp only [Act.put, List.setIfInBounds_toArray, List.set_cons_zero, List.set_cons_succ, i64_w, i32_w]
                rfl
              refine pure_ (i := 10) (N := some 84) (v := ?_) (a' := ?_) #[true, true, true, true, true, true, true, true, true, true, true, false, false, false, false, false, false] rfl rfl (any_of HT_.out (by kernel_rfl)) (fun _ _ _ h => h) (Or.inl ⟨by rfl, ?_⟩) ?_ ?_
              rotate_left
              · intro w'
                go_simp
                with_reducible rfl
              rotate_left
              · simp only [Act.put, List.setIfInBounds_toArray, List.set_cons_zero, List.set_cons_succ, i64_w, i32_w]
                rfl
              refine pure_ (i := 11) (N := some 85) (v := ?_) (a' := ?_) #[true, true, true, true, true, true, true, true, true, true, true, true, false, false, false, false, false] rfl rfl (any_of HT_.out (by kernel_rfl)) (fun _ _ _ h => h) (Or.inl ⟨by rfl, ?_⟩) ?_ ?_
              rotate_left
              · intro w'
                go_simp
                with_reducible rfl
              rotate_left
              · simp only [Act.put, List.setIfInBounds_toArray, List.set_cons_zero, List.set_cons_succ, i64_w, i32_w]
                rfl
              refine take_ (i := 12) (N := some 86) (v := ?_) (a' := ?_) #[true, true, true, true, true, true, true, true, true, true, true, true, true, false, false, false, false] rfl rfl (take_ofW HT_.out HW_.out (by kernel_rfl)) (fun _ _ _ h => h) (Or.inl ⟨by rfl, ?_⟩) hHeld ?_ ?_
              rotate_left
              · rintro w' ⟨s0, s1, s2⟩
                go_simp
                with_reducible rfl
              rotate_left
              · simp only [Act.put, List.setIfInBounds_toArray, List.set_cons_zero, List.set_cons_succ, i64_w, i32_w]
                rfl
              refine pure_ (i := 13) (N := some 87) (v := ?_) (a' := ?_) #[true, true, true, true, true, true, true, true, true, true, true, true, true, true, false, false, false] rfl rfl (any_of HT_.out (by kernel_rfl)) (fun _ _ _ h => h) (Or.inl ⟨by rfl, ?_⟩) ?_ ?_
              rotate_left
              · intro w'
                go_simp
                with_reducible rfl
              rotate_left
              · simp only [Act.put, List.setIfInBounds_toArray, List.set_cons_zero, List.set_cons_succ, i64_w, i32_w]
                rfl
              refine pure_ (i := 14) (N := some 88) (v := ?_) (a' := ?_) #[true, true, true, true, true, true, true, true, true, true, true, true, true, true, true, false, false] rfl rfl (any_of HT_.out (by kernel_rfl)) (fun _ _ _ h => h) (Or.inl ⟨by rfl, ?_⟩) ?_ ?_
              rotate_left
              · intro w'
                go_simp
                with_reducible rfl
              rotate_left
              · simp only [Act.put, List.setIfInBounds_toArray, List.set_cons_zero, List.set_cons_succ, i64_w, i32_w]
                rfl
              refine pure_ (i := 15) (N := some 89) (v := ?_) (a' := ?_) #[true, true, true, true, true, true, true, true, true, true, true, true, true, true, true, true, false] rfl rfl (any_of HT_.out (by kernel_rfl)) (fun _ _ _ h => h) (Or.inl ⟨by rfl, ?_⟩) ?_ ?_
              rotate_left
              · intro w'
                go_simp
                with_reducible rfl
              rotate_left
              · simp only [Act.put, List.setIfInBounds_toArray, List.set_cons_zero, List.set_cons_succ, i64_w, i32_w]
                rfl
              refine last_ (i := 16) (N := none) #[true, true, true, true, true, true, true, true, true, true, true, true, true, true, true, true, true] rfl rfl (one_of HT_.out (by kernel_rfl)) (by decide) (fun K hK => ?_)
              refine skip_ (w1 := Wd.setCell ⟨gh, j, none⟩ (.int .i64 nv)) (by rfl) rfl ?_ ?_
              · go_simp
              refine hK.out _ _ ?_
              clear hK K
              refine done_ (done_of HT_.out (by kernel_rfl)) ?_
              clear hHeld HT_ HW_ y0 y1 y2 zf hd ed
              go_wp2
              go_roundg k2
              case rel => exact ⟨j + 1, by go_num, ⟨by have := HJ.out; omega⟩, ⟨HR4.out⟩, ⟨HB10.out⟩, ⟨HO10.out⟩⟩
              case measure => omega
        | zero =>
          have hi : i = ps.length := by have := HI.out; omega
          have hlt : decide (i < ps.length) = false := by simp [hi]
          have hlt2 : decide ((i : Int) < (ps.length : Int)) = false := decide_eq_false (by omega)
          have HRA := Lib.hid (show RowC wr gh 2 la.length la by
            have h9 := HW.out
            rw [hi] at h9
            rwa [HME.out] at h9)
          clear hi HW HME HI
          replace HQ := Lib.hid (HQ.out.below HB6.out)
          replace HOa := Lib.hid (HOa.out.below HB6.out)
          clear HB6 HGH HPo
          generalize wr = Wq at *
          have hla : (la.length : Int) ≤ 100 := by have := HN100.out; omega
          go_upto_region 20 with (fail)
          clear hlt hlt2
          go_loopg [9, 13] la.length (fun kq v9 v13 w' => ∃ j : Nat, v13 = .int .i64 j ∧ v9 = .bool (wholeB den (la.take j)) ∧ Aside0 (j + kq = la.length) ∧ Aside0 (Below Wq.heap.size Wq w'))
          case atStart => exact ⟨0, rfl, rfl, ⟨by omega⟩, ⟨Below.refl _ _⟩⟩
          case round =>
            obtain ⟨j, rfl, rfl, HJ, HBj⟩ := hrel
            cases gk with
            | succ k2 => as_aux_lemma =>
              have hj : j < la.length := by have := HJ.out; omega
              have hlt : decide (j < la.length) = true := by simp [hj]
              have hlt2 : decide ((j : Int) < (la.length : Int)) = true := decide_eq_true (by omega)
              have hj3 : (j : Int) < (la.length : Int) := by omega
              have hj100 : (j : Int) ≤ 100 := by omega
              have x0 := (HRA.out.below HBj.out HRA.out.lt).cell j hj
              obtain ⟨ada, eA, ha⟩ := Kd.at_int (Kd.C_below HOa.out.C HBj.out) (j : Int) (by omega) (by omega)
              subst eA
              rw [Int.toNat_natCast, rd_nat la j hj] at ha
              have HQ2 := Lib.hid (HQ.out.below HBj.out)
              have z0 : wr.cell? ⟨gy, 0, none⟩ = some (.int .i64 den) := (blk_cell HQ2.out.y 0).trans rfl
              have hb0 := HNN.out j hj
              have hws := wholeB_succ (den := den) hj
              have HWS := Lib.hid hws
              have hd1 := HV.out.d1
              have hd2 := HV.out.d2
              clear hws
              generalize la[j] = v at *
              have d0 : (den == 0) = false := beq_eq_false_iff_ne.mpr (by omega)
              have d1 : ¬ den = 0 := by omega
              have d2 : v.tmod den = v % den := Int.tmod_eq_emod_of_nonneg hb0
              have t1 : (v != v) = false := bne_self_eq_false v
              generalize hB : wholeB den (la.take j) = B at *
              clear hB
              cases B with
              | false => as_aux_lemma =>
                have HWF := Lib.hid (show wholeB den (la.take (j + 1)) = false by rw [HWS.out]; rfl)
                clear HWS d2 d0 d1
                go_wp2
                repeat (go_quiet (fail); try go_wp2)
                go_roundg k2
                case rel => exact ⟨j + 1, by go_num, by rw [HWF.out], ⟨by have := HJ.out; omega⟩, ⟨by exact below_then HBj.out HBj.out.size (drawn_below ⟨_, rfl⟩)⟩⟩
                case measure => omega
              | true => as_aux_lemma =>
                by_cases hm : v % den = 0
                · have m1 : (v % den == 0) = true := beq_iff_eq.mpr hm
                  have HWF := Lib.hid (show wholeB den (la.take (j + 1)) = true by rw [HWS.out, m1]; rfl)
                  clear HWS
                  go_wp2
                  repeat (go_quiet (fail); try go_wp2)
                  go_roundg k2
                  case rel => exact ⟨j + 1, by go_num, by rw [HWF.out], ⟨by have := HJ.out; omega⟩, ⟨by exact below_then HBj.out HBj.out.size (drawn_below ⟨_, rfl⟩)⟩⟩
                  case measure => omega
                · have m1 : (v % den == 0) = false := beq_eq_false_iff_ne.mpr hm
                  have HWF := Lib.hid (show wholeB den (la.take (j + 1)) = false by rw [HWS.out, m1]; rfl)
                  clear HWS
                  go_wp2
                  repeat (go_quiet (fail); try go_wp2)
                  go_roundg k2
                  case rel => exact ⟨j + 1, by go_num, by rw [HWF.out], ⟨by have := HJ.out; omega⟩, ⟨by exact below_then HBj.out HBj.out.size (drawn_below ⟨_, rfl⟩)⟩⟩
                  case measure => omega
            | zero =>
              have hj : j = la.length := by have := HJ.out; omega
              have hlt : decide (j < la.length) = false := by simp [hj]
              have hlt2 : decide ((j : Int) < (la.length : Int)) = false := decide_eq_false (by omega)
              have hwl : wholeB den (la.take j) = wholeB den la := by rw [hj, List.take_length]
              rw [hwl]
              clear hwl hj HJ HRA
              replace HQ := Lib.hid (HQ.out.below HBj.out)
              replace HOa := Lib.hid (HOa.out.below HBj.out)
              clear HBj
              cases hB : wholeB den la with
              | false => as_aux_lemma =>
                clear hB
                go_wp2_with (go_at_call 15; refine (works_calls _).mono ?_; rintro e W9 ⟨rfl, hb⟩; have HB := Lib.hid hb; clear hb)
                go_ret
                exact ⟨rfl, by rw [← eg0] at *; have h9 := HQ.out.g; exact below_then h9 h9.size HB.out⟩
              | true =>
                have HWB := Lib.hid hB
                clear hB
                generalize wr = W9 at *
                have y0 : W9.cell? ⟨gy, 0, none⟩ = some (.int .i64 den) := (blk_cell HQ.out.y 0).trans rfl
                have y1 : W9.cell? ⟨gy, 1, none⟩ = some (.slice A l.length c) := (blk_cell HQ.out.y 1).trans rfl
                go_upto_region 28 with (go_at_call 32; refine (pole_Round.calls den A c l r 0 W9 HQ.out.C HQ.out.hc HR.out).mono ?_; rintro e W10 ⟨vr, rfl, ho, hb⟩; obtain ⟨Ar, nr, cr, hv_⟩ : ∃ A n c, vr = .slice A n c := (by obtain ⟨A9, c9, h9⟩ := Kd.R_slice (Kd.S_R ho); exact ⟨_, _, _, h9⟩); subst hv_; have HRo := Lib.hid (Rd.of (Kd.S_R ho)); have HB := Lib.hid hb; clear ho hb)
                clear HR hlt hlt2
                clear y0 y1
                replace HQ := Lib.hid (HQ.out.below HB.out)
                replace HOa := Lib.hid (HOa.out.below HB.out)
                clear HB
                have hnr : nr = l.length := HRo.out.hn.trans HRL.out
                subst hnr
                have y0 : W10.cell? ⟨gy, 0, none⟩ = some (.int .i64 den) := (blk_cell HQ.out.y 0).trans rfl
                have y1 : W10.cell? ⟨gy, 1, none⟩ = some (.slice A l.length c) := (blk_cell HQ.out.y 1).trans rfl
                have HK := forecourtref09_CheckRounding.calls 1000 den A c l Ar cr r 0 W10 HQ.out.C HQ.out.hc HRo.out.C (by rw [HRL.out]; exact HRo.out.hc) (by rw [refCR den l r 1000 (Nat.le_refl _), HRE.out])
                rw [HRL.out] at HK
                have HK := Lib.hid HK
                go_upto_region 30 with (go_at_call 31; refine (HK.out).mono ?_; rintro e W11 ⟨rfl, hb⟩; have HB := Lib.hid hb; clear hb)
                clear HK
                clear y0 y1
                replace HQ := Lib.hid (HQ.out.below HB.out)
                replace HOa := Lib.hid (HOa.out.below HB.out)
                replace HRo := Lib.hid (HRo.out.below HB.out)
                clear HB
                have hn0 := HV.out.n0
                have hn6 := HV.out.n6
                have hm0 := HV.out.m0
                have hm6 := HV.out.m6
                obtain ⟨ad, A0, d0, eA, hc0, _⟩ := row0 HQ.out.C hn0
                subst eA
                have y0 : W11.cell? ⟨gy, 0, none⟩ = some (.int .i64 den) := (blk_cell HQ.out.y 0).trans rfl
                have y1 : W11.cell? ⟨gy, 1, none⟩ = some (.slice (some ad) l.length c) := (blk_cell HQ.out.y 1).trans rfl
                have hcell : l.length * (rd_L2 l 0).length ≤ la.length := by rw [← HLA.out, pas_len HV.out.tab]; unfold amN; omega
                generalize em : (rd_L2 l 0).length = m at *
                obtain ⟨q, hq⟩ : ∃ q, l.length * m = q := ⟨_, rfl⟩
                have hq2 : (l.length : Int) * (m : Int) = (q : Int) := by rw [← hq]; simp
                rw [hq] at hcell
                have hq100 : (q : Int) ≤ 100 := by omega
                go_quiet (fail)
                have HB := Lib.hid (drawn_below (W := W11) (W' := W11.drewN nq) ⟨nq, rfl⟩)
                clear hc0
                clear y0 y1
                replace HQ := Lib.hid (HQ.out.below HB.out)
                replace HOa := Lib.hid (HOa.out.below HB.out)
                replace HRo := Lib.hid (HRo.out.below HB.out)
                clear HB
                generalize W11.drewN nq = W12 at *
                clear hq em
                go_upto_region 33 with (fail)
                go_loopg [16, 17] q (fun kq v16 v17 w' => ∃ j : Nat, v17 = .int .i64 j ∧ v16 = .bool true ∧ Aside0 (j + kq = q) ∧ Aside0 (Below W12.heap.size W12 w'))
                case atStart => exact ⟨0, rfl, rfl, ⟨by omega⟩, ⟨Below.refl _ _⟩⟩
                case round =>
                  obtain ⟨j, rfl, rfl, HJ, HBj⟩ := hrel
                  cases gk with
                  | succ k2 => as_aux_lemma =>
                    have hj : j < q := by have := HJ.out; omega
                    have hlt : decide (j < q) = true := by simp [hj]
                    have hlt2 : decide ((j : Int) < (q : Int)) = true := decide_eq_true (by omega)
                    have hj1 : j < la.length := by omega
                    have hj3 : (j : Int) < (la.length : Int) := by omega
                    have hj100 : (j : Int) ≤ 100 := by omega
                    obtain ⟨ada, eB, ha⟩ := Kd.at_int (Kd.C_below HOa.out.C HBj.out) (j : Int) (by omega) (by omega)
                    subst eB
                    rw [Int.toNat_natCast, rd_nat la j hj1] at ha
                    have HQ2 := Lib.hid (HQ.out.below HBj.out)
                    have z0 : wr.cell? ⟨gy, 0, none⟩ = some (.int .i64 den) := (blk_cell HQ2.out.y 0).trans rfl
                    have hb0 := HNN.out j hj1
                    have hmz := wholeB_at HWB.out j hj1
                    have hd1 := HV.out.d1
                    have hd2 := HV.out.d2
                    generalize la[j] = v at *
                    have d0 : (den == 0) = false := beq_eq_false_iff_ne.mpr (by omega)
                    have d1 : ¬ den = 0 := by omega
                    have d2 : v.tmod den = 0 := by rw [Int.tmod_eq_emod_of_nonneg hb0]; exact hmz
                    clear hmz hcell hq2
                    go_wp2
                    repeat (go_quiet (fail); try go_wp2)
                    go_roundg k2
                    case rel => exact ⟨j + 1, by go_num, rfl, ⟨by have := HJ.out; omega⟩, ⟨by exact below_then HBj.out HBj.out.size (drawn_below ⟨_, rfl⟩)⟩⟩
                    case measure => omega
                  | zero => as_aux_lemma =>
                    have hj : j = q := by have := HJ.out; omega
                    have hlt : decide (j < q) = false := by simp [hj]
                    have hlt2 : decide ((j : Int) < (q : Int)) = false := decide_eq_false (by omega)
                    clear hj HJ hq2 hcell
                    replace HQ := Lib.hid (HQ.out.below HBj.out)
                    replace HRo := Lib.hid (HRo.out.below HBj.out)
                    clear HBj HOa
                    generalize wr = W13 at *
                    have y0 : W13.cell? ⟨gy, 0, none⟩ = some (.int .i64 den) := (blk_cell HQ.out.y 0).trans rfl
                    have y1 : W13.cell? ⟨gy, 1, none⟩ = some (.slice (some ad) l.length c) := (blk_cell HQ.out.y 1).trans rfl
                    have HPE := Lib.hid (show pole_CheckRounding.f den l g = some (refRE den l g) by unfold pole_CheckRounding.f; rw [rounding_same])
                    by_cases q9 : refRE den l g = 0
                    · have hgr : g = r := whole_one HT.out q9 HRE.out (fun j h => by
                        have h9 := wholeB_at HWB.out j (by rw [← HLA.out]; exact h)
                        have h8 := HLA.out
                        subst h8
                        exact h9)
                      rw [q9] at HPE
                      have HGR := Lib.hid hgr
                      have HSM := Lib.hid (show forecourtlaw09_same.f 1000 g r = some true by rw [hgr]; exact same_self r (by rw [HRL.out]; exact hn6) (fun y hy => by rw [(shaped_iff.1 (refRE_shaped HT.out HRE.out)).2 y hy]; exact HV.out.m6) 1000 (by omega))
                      clear q9 hgr
                      have hK5 := fun (W : World) (hQ : LV w W gy den (some ad) c l A1 c1 g) (hRo : Rd (Kd.slice 2 (Kd.int .i64)) W Ar l.length cr r) => forecourtlaw09_same.calls 1000 A1 c1 g Ar cr r true W hQ.C1 hQ.hc1 hRo.C (by rw [HRL.out]; exact hRo.hc) HSM.out
                      rw [HRL.out] at hK5
                      have HK5 := Lib.hid hK5
                      clear hK5
                      go_wp2_with (first
                        | (go_at_call 30; refine (pole_CheckRounding.calls den (some ad) c l A1 c1 g 0 W13 HQ.out.C HQ.out.hc HQ.out.C1 HQ.out.hc1 HPE.out).mono ?_; rintro e W14 ⟨rfl, hb⟩; have HB := Lib.hid hb; clear hb; replace HQ := Lib.hid (HQ.out.below HB.out); replace HRo := Lib.hid (HRo.out.below HB.out))
                        | (go_at_call 50; refine (HK5.out _ HQ.out HRo.out).mono ?_; rintro e W15 ⟨rfl, hb⟩; have HB2 := Lib.hid (drawn_below hb); clear hb; replace HQ := Lib.hid (HQ.out.below HB2.out))
                        | (go_at_call 15; refine (works_calls _).mono ?_; rintro e W16 ⟨rfl, hb⟩; have HB3 := Lib.hid hb; clear hb))
                      go_ret
                      exact ⟨rfl, by rw [← eg0] at *; have h9 := HQ.out.g; exact below_then h9 h9.size HB3.out⟩
                    · obtain ⟨E, hE⟩ : ∃ E, refRE den l g = E := ⟨_, rfl⟩
                      rw [hE] at q9 HPE
                      have t1 : (E != 0) = true := bne_iff_ne.mpr q9
                      clear hE q9
                      go_wp2_with (first
                        | (go_at_call 30; refine (pole_CheckRounding.calls den (some ad) c l A1 c1 g E W13 HQ.out.C HQ.out.hc HQ.out.C1 HQ.out.hc1 HPE.out).mono ?_; rintro e W14 ⟨rfl, hb⟩; have HB := Lib.hid hb; clear hb; replace HQ := Lib.hid (HQ.out.below HB.out))
                        | (go_at_call 15; refine (works_calls _).mono ?_; rintro e W16 ⟨rfl, hb⟩; have HB3 := Lib.hid hb; clear hb))
                      go_ret
                      exact ⟨rfl, by rw [← eg0] at *; have h9 := HQ.out.g; exact below_then h9 h9.size HB3.out⟩
end Go.Proofs.Ytcgdbjojjpoegaa.P

