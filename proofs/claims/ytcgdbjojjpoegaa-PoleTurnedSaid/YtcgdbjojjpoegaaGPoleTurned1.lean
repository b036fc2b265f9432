/- Texts of this claim, joined: K, L, T20, T21, T22, T23, T24, T25, T26, T27, T28, T29, Pf27, Pf40, T30, T31, XC4, Pf43, T32, LT, XU, LR, LS. -/
import Derived.Test.YtcgdbjojjpoegaaGc5
import Derived.Deep.Slices
import Derived.ChangeShapes
import Derived.ChangeOld
import Derived.Lib.SmallJoins
namespace Go.Proofs.YtcgdbjojjpoegaaK
open Go.RowKit Go.ChangeShapes Go.WideShapes Go.Deep Go.Joins Go.Proofs.YtcgdbjojjpoegaaW.PrintWords Go.Proofs.YtcgdbjojjpoegaaW.PrintLast Go.Proofs.YtcgdbjojjpoegaaW.PrintMore

/-- What the cells of a type read as: a value of the kind d, which is ok. -/
def Opens {α : Type} (P : Program) (t : TypeId) (d : Kd α) (ok : α → Prop) : Prop :=
  ∀ (H : Type) (enc : TypeId × Value → H) (w : World) (base : Nat) (spare : Nat → Bool) (held : Bool) (fuel : Nat) (cs : List Value) (x : DataW H × List MemPlace), DataW.trod enc P w base spare held fuel t cs = some x → ∃ a, d.K w a cs ∧ ok a
theorem Opens.int {P : Program} {t : TypeId} {k : IntKind} (ht : P.underlying t = some (.int k)) : Opens P t (Kd.int k) (fun n => (Lit.int k n).wf = true) := by
  intro H enc w base spare held fuel cs x h
  obtain ⟨n, rfl, _, hw⟩ := DataW.trod_int ht h
  exact ⟨n, rfl, hw⟩
/-- A slice of what opens, from its one cell. -/
theorem opens_slice {α : Type} {P : Program} {t e : TypeId} {d : Kd α} {ok : α → Prop} (ht : P.underlying t = some (.slice e)) (hc : P.cellsOf e = d.sz) (he : Opens P e d ok)
    {H : Type} {enc : TypeId × Value → H} {w : World} {base : Nat} {spare : Nat → Bool} {held : Bool} {fuel : Nat} {cs : List Value} {x : DataW H × List MemPlace} (h : DataW.trod enc P w base spare held fuel t cs = some x) :
    ∃ (A : Option Addr) (c : Nat) (l : List α), cs = [.slice A l.length c] ∧ l.length ≤ c ∧ d.C w A l.length l ∧ ∀ a ∈ l, ok a := by
  rcases open_slice ht h with ⟨rfl, _⟩ | ⟨a, len, cap, m, n, D, Pl, rfl, hb, hl, hm, hmm, _, hx⟩
  · exact ⟨none, 0, [], rfl, Nat.le_refl _, ⟨rfl, (by simp), fun h => absurd h (by simp)⟩, (by simp)⟩
  have hle : len ≤ m := by rw [hmm]; split <;> omega
  have hex : ∀ i, i < len → ∃ y : α, ok y ∧ ∃ cs', cs'.length = d.sz ∧ d.K w y cs' ∧ ∀ j u, cs'[j]? = some u → w.cell? (a.add (i * d.sz + j)) = some u := by
    intro i hi
    obtain ⟨cs', h1, h2⟩ := hx i (by omega)
    obtain ⟨y, ky, oy⟩ := he H enc w base spare held n _ _ h2
    obtain ⟨_, hlen, hcell⟩ := World.cells?_some h1
    rw [hc] at hlen hcell
    refine ⟨y, oy, cs', hlen, ky, fun j u hu => ?_⟩
    have hj : j < d.sz := by
      have := (List.getElem?_eq_some_iff.1 hu).1
      omega
    have := hcell j hj
    rw [Go.Deep.add_add] at this
    rw [this, hu]
  have key : ∀ N, N ≤ len → ∃ l : List α, l.length = N ∧ (∀ y ∈ l, ok y) ∧ ∀ j p, l[j]? = some p → ∃ c, c.length = d.sz ∧ d.K w p c ∧ ∀ i u, c[i]? = some u → w.cell? (a.add (j * d.sz + i)) = some u := by
    intro N
    induction N with
    | zero => exact fun _ => ⟨[], rfl, (by simp), fun j p h => by simp at h⟩
    | succ N ih =>
      intro hN
      obtain ⟨l, hl1, hl2, hl3⟩ := ih (by omega)
      obtain ⟨y, oy, cs', hs, ky, hcell⟩ := hex N (by omega)
      refine ⟨l ++ [y], (by simp [hl1]), fun z hz => ?_, fun j p hj => ?_⟩
      · rcases List.mem_append.1 hz with hz | hz
        · exact hl2 z hz
        · rw [List.mem_singleton] at hz; subst hz; exact oy
      · by_cases hjl : j < l.length
        · rw [List.getElem?_append_left hjl] at hj
          exact hl3 j p hj
        · rw [List.getElem?_append_right (by omega)] at hj
          have hj0 : j - l.length = 0 := by
            have := (List.getElem?_eq_some_iff.1 hj).1
            simp at this
            omega
          rw [hj0] at hj
          simp only [List.getElem?_cons_zero, Option.some.injEq] at hj
          subst hj
          have : j = N := by omega
          subst this
          exact ⟨cs', hs, ky, hcell⟩
  obtain ⟨l, hl1, hl2, hl3⟩ := key len (Nat.le_refl _)
  subst hl1
  refine ⟨some a, cap, l, rfl, hl, ⟨rfl, ?_, fun _ => ⟨a, rfl, hl3⟩⟩, hl2⟩
  have : maxLen = 9223372036854775807 := rfl
  omega
/-- A slice that was passed. -/
theorem arg_slice {α : Type} {P : Program} {t e : TypeId} {d : Kd α} {ok : α → Prop} (ht : P.underlying t = some (.slice e)) (hc : P.cellsOf e = d.sz) (he : Opens P e d ok)
    {H : Type} {enc : TypeId × Value → H} {w : World} {r : Reach} {base b0 : Nat} {spare : Nat → Bool} {held : Bool} {v : Value} {dd : DataW H} {p : List MemPlace} (hv : Value.okWide P w r b0 t v) (h : DataW.Trod enc P w base spare held t v dd p) :
    ∃ (A : Option Addr) (c : Nat) (l : List α), v = .slice A l.length c ∧ l.length ≤ c ∧ d.C w A l.length l ∧ ∀ a ∈ l, ok a := by
  obtain ⟨A, n, c, rfl⟩ := okWide_slice ht hv
  obtain ⟨fuel, hf⟩ := h
  obtain ⟨A', c', l, hcs, hl, hC, hok⟩ := opens_slice ht hc he hf
  have : [Value.slice A n c] = [Value.slice A' l.length c'] := hcs
  simp only [List.cons.injEq, Value.slice.injEq, and_true] at this
  obtain ⟨rfl, rfl, rfl⟩ := this
  exact ⟨A, c, l, rfl, hl, hC, hok⟩
theorem arg_lt {P : Program} {H : Type} {enc : TypeId × Value → H} {w : World} {base : Nat} {spare : Nat → Bool} {held : Bool} {t : TypeId} {v : Value} {dd : DataW H} {p : List MemPlace} (h : DataW.Trod enc P w base spare held t v dd p) : ∀ x ∈ p, x.block < w.heap.size := by
  obtain ⟨m, hm⟩ := h
  exact DataW.trod_lt m _ _ _ hm
end Go.Proofs.YtcgdbjojjpoegaaK

namespace Go.Proofs.Ytcgdbjojjpoegaa.P
open Go.RowKit Go.ChangeShapes Go.WideShapes Go.Deep Go.Joins Go.Proofs.YtcgdbjojjpoegaaW.PrintWords Go.Proofs.YtcgdbjojjpoegaaW.PrintLast Go.Proofs.YtcgdbjojjpoegaaW.PrintMore Go.Proofs.YtcgdbjojjpoegaaK
set_option maxRecDepth 100000

/-- A whole number that Go's int64 holds. -/
def I64 (n : Int) : Prop := (Lit.int .i64 n).wf = true
theorem opens2 : Opens Try.prog 2 (Kd.int .i64) I64 := Opens.int Try.underlying2
end Go.Proofs.Ytcgdbjojjpoegaa.P

/- The search for a way round finds one, where amounts go round: plain law. -/
namespace Go.Proofs.Ytcgdbjojjpoegaa.P
open Go.RowKit Go.Proofs.YtcgdbjojjpoegaaW.PrintWords Go.Proofs.YtcgdbjojjpoegaaW.PrintLast Go.Proofs.YtcgdbjojjpoegaaW.PrintMore
set_option linter.unusedVariables false
set_option linter.unusedSimpArgs false

/-- What the search knows: ord are the places that were found, in their order rk. -/
structure SI (den : Int) (am : List Am) (i home : Int) (s : RSt) (ord : List Int) (rk : Int → Nat) : Prop where
  nd : ord.Nodup
  rng : ∀ q ∈ ord, 0 ≤ q ∧ q < 14
  hm : home ∈ ord
  len : s.seen.length = 14
  seen : ∀ q, 0 ≤ q → q < 14 → (s.seen.getD q.toNat 0 = 1 ↔ q ∈ ord)
  by1 : ∀ q ∈ ord, q ≠ home → ∃ x, s.by_ q = some x ∧ x.f2 = q ∧ StepOK den am i x ∧ x.f1 ∈ ord ∧ rk x.f1 < rk q
  lt : ∀ q ∈ ord, rk q < ord.length
  wt : ∀ q ∈ s.wait, q ∈ ord
theorem SI.le {den : Int} {am : List Am} {i home : Int} {s : RSt} {ord : List Int} {rk : Int → Nat} (h : SI den am i home s ord rk) : ord.length ≤ 14 := by
  have h1 : ord ⊆ (List.range 14).map (fun (j : Nat) => (j : Int)) := by
    intro q hq
    have := h.rng q hq
    rw [List.mem_map]
    exact ⟨q.toNat, by rw [List.mem_range]; omega, by omega⟩
  have := h.nd.length_le_of_subset h1
  simpa using this
theorem getD_set_z (l : List Int) (j k : Nat) (v : Int) (hj : j < l.length) : (l.set j v).getD k 0 = if k = j then v else l.getD k 0 := by
  rw [List.getD_eq_getElem?_getD, List.getElem?_set]
  by_cases e : j = k
  · subst e
    simp [hj]
  · rw [if_neg e, if_neg (fun h => e h.symm), List.getD_eq_getElem?_getD]
/-- A place is found. -/
theorem SI.add {den : Int} {am : List Am} {i home : Int} {s : RSt} {ord : List Int} {rk : Int → Nat} (h : SI den am i home s ord rk) {x : S117} (hx : StepOK den am i x) (h1 : x.f1 ∈ ord) (h2 : x.f2 ∉ ord) (hr : 0 ≤ x.f2 ∧ x.f2 < 14) (wait : List Int) (hw : ∀ q ∈ wait, q ∈ ord ∨ q = x.f2) :
    SI den am i home ⟨s.seen.set x.f2.toNat 1, fun k => if k = x.f2 then some x else s.by_ k, wait⟩ (ord ++ [x.f2]) (fun q => if q = x.f2 then ord.length else rk q) := by
  have hne : ∀ q ∈ ord, q ≠ x.f2 := fun q hq e => h2 (e ▸ hq)
  refine ⟨?_, ?_, ?_, ?_, ?_, ?_, ?_, ?_⟩
  · rw [List.nodup_append]
    refine ⟨h.nd, by simp, fun a ha b hb => ?_⟩
    rw [List.mem_singleton] at hb
    rw [hb]
    exact hne a ha
  · intro q hq
    rw [List.mem_append, List.mem_singleton] at hq
    rcases hq with hq | rfl
    · exact h.rng q hq
    · exact hr
  · rw [List.mem_append]
    exact .inl h.hm
  · simpa using h.len
  · intro q hq hq'
    have hlt : x.f2.toNat < s.seen.length := by rw [h.len]; omega
    rw [getD_set_z _ _ _ _ hlt, List.mem_append, List.mem_singleton]
    by_cases e : q = x.f2
    · rw [if_pos (by rw [e])]
      exact ⟨fun _ => .inr e, fun _ => rfl⟩
    · rw [if_neg (by omega), h.seen q hq hq']
      exact ⟨fun a => .inl a, fun a => a.resolve_right e⟩
  · intro q hq hqh
    rw [List.mem_append, List.mem_singleton] at hq
    rcases hq with hq | rfl
    · obtain ⟨y, y1, y2, y3, y4, y5⟩ := h.by1 q hq hqh
      refine ⟨y, by simp only; rw [if_neg (hne q hq)]; exact y1, y2, y3, by rw [List.mem_append]; exact .inl y4, ?_⟩
      rw [if_neg (hne _ y4), if_neg (hne q hq)]
      exact y5
    · refine ⟨x, by simp, rfl, hx, by rw [List.mem_append]; exact .inl h1, ?_⟩
      rw [if_neg (hne _ h1), if_pos rfl]
      exact h.lt _ h1
  · intro q hq
    rw [List.mem_append, List.mem_singleton] at hq
    rw [List.length_append, List.length_singleton]
    rcases hq with hq | rfl
    · rw [if_neg (hne q hq)]
      have := h.lt q hq
      omega
    · rw [if_pos rfl]
      omega
  · intro q hq
    rw [List.mem_append, List.mem_singleton]
    exact hw q hq
/-- what a turn has done after some steps -/
structure TI (den : Int) (am : List Am) (i home goal : Int) (s : RSt × Bool) (ord : List Int) (done : List S117) (w0 n0 : Nat) : Prop where
  si : ∃ rk, SI den am i home s.1 ord rk
  fnd : s.2 = true → goal ∈ ord
  not : s.2 = false → goal ∉ ord
  dn : s.2 = false → ∀ x ∈ done, x.f2 ∈ ord
  cnt : s.2 = false → s.1.wait.length + n0 = w0 + ord.length
theorem turn_fold {den : Int} {am : List Am} {i home goal at_ : Int} (hok : AmOk am) : ∀ (l : List S117) (s : RSt × Bool) (ord : List Int) (done : List S117) (w0 n0 : Nat) (base : List Int), TI den am i home goal s ord done w0 n0 → at_ ∈ ord → (∀ q ∈ base, q ∈ ord) → (∀ q ∈ base, q ∈ s.1.wait) → (∀ q ∈ ord, q ∈ base ∨ True) →
    (∀ x ∈ l, StepOK den am i x ∧ x.f1 = at_ ∧ 0 ≤ x.f2 ∧ x.f2 < 14) →
    ∃ ord', TI den am i home goal (l.foldl (bodyR goal) s) ord' (done ++ l) w0 n0 ∧ (∀ q ∈ ord, q ∈ ord') ∧ (∀ q ∈ s.1.wait, q ∈ (l.foldl (bodyR goal) s).1.wait) ∧ (∀ q ∈ ord', q ∈ ord ∨ q ∈ (l.foldl (bodyR goal) s).1.wait ∨ q = goal)
  | [], s, ord, done, w0, n0, base, h, _, _, _, _, _ => ⟨ord, by rw [List.append_nil]; exact h, fun q hq => hq, fun q hq => hq, fun q hq => .inl hq⟩
  | x :: l, s, ord, done, w0, n0, base, h, ha, hb1, hb2, hb3, hl => by
    obtain ⟨hx, hx1, hx2⟩ := hl x (by simp)
    have hl' : ∀ y ∈ l, StepOK den am i y ∧ y.f1 = at_ ∧ 0 ≤ y.f2 ∧ y.f2 < 14 := fun y hy => hl y (by simp [hy])
    rw [List.foldl_cons]
    obtain ⟨rk, hsi⟩ := h.si
    cases hs : s.2 with
    | true =>
      have e : bodyR goal s x = s := by unfold bodyR; rw [if_pos hs]
      rw [e]
      have h' : TI den am i home goal s ord (done ++ [x]) w0 n0 := ⟨h.si, h.fnd, h.not, (fun hf => by rw [hs] at hf; cases hf), h.cnt⟩
      obtain ⟨o, h1, h2⟩ := turn_fold hok l s ord (done ++ [x]) w0 n0 base h' ha hb1 hb2 hb3 hl'
      exact ⟨o, by rw [List.append_assoc] at h1; exact h1, h2⟩
    | false =>
      have e0 : s = (s.1, false) := by rw [← hs]
      by_cases hsn : s.1.seen.getD x.f2.toNat 0 = 1
      · have e : bodyR goal s x = s := by
          rw [e0]
          exact bodyR_seen hsn
        rw [e]
        have hin := (hsi.seen _ hx2.1 hx2.2).1 hsn
        have h' : TI den am i home goal s ord (done ++ [x]) w0 n0 := ⟨h.si, h.fnd, h.not, (fun hf y hy => by
          rw [List.mem_append, List.mem_singleton] at hy
          rcases hy with hy | rfl
          · exact h.dn hf y hy
          · exact hin), h.cnt⟩
        obtain ⟨o, h1, h2⟩ := turn_fold hok l s ord (done ++ [x]) w0 n0 base h' ha hb1 hb2 hb3 hl'
        exact ⟨o, by rw [List.append_assoc] at h1; exact h1, h2⟩
      · have hnin : x.f2 ∉ ord := fun hin => hsn ((hsi.seen _ hx2.1 hx2.2).2 hin)
        have hng := h.not hs
        have hcnt := h.cnt hs
        have hf1 : x.f1 ∈ ord := by rw [hx1]; exact ha
        by_cases hg : x.f2 = goal
        · have e : bodyR goal s x = (⟨s.1.seen.set x.f2.toNat 1, fun k => if k = x.f2 then some x else s.1.by_ k, s.1.wait⟩, true) := by
            rw [e0, bodyR_new hsn, if_pos hg]
          rw [e]
          have h' : TI den am i home goal (⟨s.1.seen.set x.f2.toNat 1, fun k => if k = x.f2 then some x else s.1.by_ k, s.1.wait⟩, true) (ord ++ [x.f2]) (done ++ [x]) w0 n0 :=
            ⟨⟨_, hsi.add hx hf1 hnin hx2 s.1.wait (fun q hq => .inl (hsi.wt q hq))⟩, (fun _ => by rw [hg]; simp), (fun hf => by cases hf), (fun hf => by cases hf), (fun hf => by cases hf)⟩
          obtain ⟨o, h1, h2, h3, h4⟩ := turn_fold hok l _ (ord ++ [x.f2]) (done ++ [x]) w0 n0 [] h' (by simp [ha]) (by simp) (by simp) (fun _ _ => .inr trivial) hl'
          refine ⟨o, by rw [List.append_assoc] at h1; exact h1, fun q hq => h2 q (by simp [hq]), h3, fun q hq => ?_⟩
          rcases h4 q hq with h5 | h5
          · rw [List.mem_append, List.mem_singleton] at h5
            rcases h5 with h5 | h5
            · exact .inl h5
            · exact .inr (.inr (h5.trans hg))
          · exact .inr h5
        · have e : bodyR goal s x = (⟨s.1.seen.set x.f2.toNat 1, fun k => if k = x.f2 then some x else s.1.by_ k, s.1.wait ++ [x.f2]⟩, false) := by
            rw [e0, bodyR_new hsn, if_neg hg]
          rw [e]
          have h' : TI den am i home goal (⟨s.1.seen.set x.f2.toNat 1, fun k => if k = x.f2 then some x else s.1.by_ k, s.1.wait ++ [x.f2]⟩, false) (ord ++ [x.f2]) (done ++ [x]) w0 n0 :=
            ⟨⟨_, hsi.add hx hf1 hnin hx2 (s.1.wait ++ [x.f2]) (fun q hq => by
              rw [List.mem_append, List.mem_singleton] at hq
              exact hq.imp (hsi.wt q) id)⟩, (fun hf => by cases hf), (fun _ hgo => by
              rw [List.mem_append, List.mem_singleton] at hgo
              rcases hgo with hgo | hgo
              · exact hng hgo
              · exact hg hgo.symm), (fun _ y hy => by
              rw [List.mem_append, List.mem_singleton] at hy
              rw [List.mem_append, List.mem_singleton]
              rcases hy with hy | rfl
              · exact .inl (h.dn hs y hy)
              · exact .inr rfl), (fun _ => by simp only [List.length_append, List.length_singleton]; omega)⟩
          obtain ⟨o, h1, h2, h3, h4⟩ := turn_fold hok l _ (ord ++ [x.f2]) (done ++ [x]) w0 n0 [] h' (by simp [ha]) (by simp) (by simp) (fun _ _ => .inr trivial) hl'
          refine ⟨o, by rw [List.append_assoc] at h1; exact h1, fun q hq => h2 q (by simp [hq]), fun q hq => h3 q (by simp [hq]), fun q hq => ?_⟩
          rcases h4 q hq with h5 | h5
          · rw [List.mem_append, List.mem_singleton] at h5
            rcases h5 with h5 | h5
            · exact .inl h5
            · exact .inr (.inl (h3 q (by simp [h5])))
          · exact .inr h5
theorem stepOf_rng {am : List Am} (hok : AmOk am) {k : Nat} (hk : k < am.length) (from_ : Int) : 0 ≤ (stepOf from_ k (amAt am k)).f2 ∧ (stepOf from_ k (amAt am k)).f2 < 14 := by
  have h := hok _ (List.getElem_mem hk)
  rw [← amAt_nat am k hk] at h
  unfold stepOf
  split
  · exact h.1
  · exact h.2
theorem stepsTo_mem {den from_ but : Int} {am : List Am} : ∀ (n : Nat) (k : Nat), k < n → isStep den from_ but k (amAt am k) = true → stepOf from_ k (amAt am k) ∈ stepsTo den from_ but am n
  | 0, k, hk, _ => by omega
  | n + 1, k, hk, h => by
    rw [stepsTo, List.mem_append]
    rcases Nat.lt_or_ge k n with h1 | h1
    · exact .inl (stepsTo_mem n k h1 h)
    · have : k = n := by omega
      subst this
      right
      rw [if_pos h]
      simp
/-- all that can be reached by amounts that are not whole is found -/
def Closed (den : Int) (am : List Am) (i : Int) (ord wait : List Int) : Prop :=
  ∀ q ∈ ord, q ∉ wait → ∀ k, k < am.length → isStep den q i k (amAt am k) = true → (stepOf q k (amAt am k)).f2 ∈ ord
theorem search_ok {den : Int} {am : List Am} {i home goal : Int} (hok : AmOk am) : ∀ (n fuel : Nat) (s : RSt) (ord : List Int) (rk : Int → Nat), SI den am i home s ord rk → goal ∉ ord → Closed den am i ord s.wait → s.wait.length + 14 ≤ n + ord.length → n ≤ fuel →
    ∃ s' ord' rk', searchR den am i goal fuel s = some s' ∧ SI den am i home s' ord' rk' ∧ (goal ∈ ord' ∨ (goal ∉ ord' ∧ Closed den am i ord' []))
  | n, fuel, s, ord, rk, h, hg, hc, hn, hf => by
    by_cases hw : s.wait = []
    · refine ⟨s, ord, rk, ?_, h, .inr ⟨hg, by rw [hw] at hc; exact hc⟩⟩
      cases fuel with
      | zero => rw [searchR, if_pos hw]
      | succ f => rw [searchR, if_pos hw]
    · have hle := h.le
      have hwl : 0 < s.wait.length := List.length_pos_iff.2 hw
      cases fuel with
      | zero => omega
      | succ f =>
        have hsplit : s.wait = s.wait.take (s.wait.length - 1) ++ [lastI s.wait] := by
          have h1 : s.wait.length - 1 < s.wait.length := by omega
          have h2 : lastI s.wait = s.wait[s.wait.length - 1] := by
            unfold lastI
            rw [List.getD_eq_getElem?_getD, List.getElem?_eq_getElem h1]
            rfl
          rw [h2, ← List.take_succ_eq_append_getElem h1, show s.wait.length - 1 + 1 = s.wait.length by omega, List.take_length]
        have hat : lastI s.wait ∈ ord := h.wt _ (by
          have h9 : lastI s.wait ∈ s.wait.take (s.wait.length - 1) ++ [lastI s.wait] := by simp
          rwa [← hsplit] at h9)
        have hsi0 : SI den am i home ⟨s.seen, s.by_, s.wait.take (s.wait.length - 1)⟩ ord rk := ⟨h.nd, h.rng, h.hm, h.len, h.seen, h.by1, h.lt, fun q hq => h.wt q (List.mem_of_mem_take hq)⟩
        have hti : TI den am i home goal (⟨s.seen, s.by_, s.wait.take (s.wait.length - 1)⟩, false) ord [] (s.wait.length - 1) ord.length :=
          ⟨⟨rk, hsi0⟩, (fun hh => by cases hh), (fun _ => hg), (fun _ x hx => by cases hx), (fun _ => by simp only [List.length_take]; omega)⟩
        have hsteps : ∀ x ∈ stepsTo den (lastI s.wait) i am am.length, StepOK den am i x ∧ x.f1 = lastI s.wait ∧ 0 ≤ x.f2 ∧ x.f2 < 14 := by
          intro x hx
          obtain ⟨h1, h2⟩ := stepsTo_ok am.length (Nat.le_refl _) x hx
          refine ⟨h1, h2, ?_⟩
          obtain ⟨k, hk, e, _⟩ := h1
          rw [e]
          exact stepOf_rng hok hk _
        obtain ⟨ord', ht, hsub, hwt, hnew⟩ := turn_fold hok _ _ ord [] (s.wait.length - 1) ord.length [] hti hat (by simp) (by simp) (fun _ _ => .inr trivial) hsteps
        rw [searchR, if_neg hw]
        show ∃ s' ord' rk', (if (turnR den am i goal s).2 = true then some (turnR den am i goal s).1 else searchR den am i goal f (turnR den am i goal s).1) = some s' ∧ _
        have hturn : turnR den am i goal s = (stepsTo den (lastI s.wait) i am am.length).foldl (bodyR goal) (⟨s.seen, s.by_, s.wait.take (s.wait.length - 1)⟩, false) := rfl
        rw [← hturn] at ht hwt hnew
        obtain ⟨rk', hsi'⟩ := ht.si
        cases hfound : (turnR den am i goal s).2 with
        | true =>
          rw [if_pos rfl]
          exact ⟨_, ord', rk', rfl, hsi', .inl (ht.fnd hfound)⟩
        | false =>
          rw [if_neg (by decide)]
          have hcnt := ht.cnt hfound
          have hle' := hsi'.le
          refine search_ok hok (n - 1) f _ ord' rk' hsi' (ht.not hfound) ?_ (by omega) (by omega)
          intro q hq hqw k hk hs
          rcases hnew q hq with h1 | h1 | h1
          · by_cases hqa : q = lastI s.wait
            · subst hqa
              refine ht.dn hfound _ ?_
              rw [List.nil_append]
              exact stepsTo_mem am.length k hk hs
            · by_cases hqt : q ∈ s.wait.take (s.wait.length - 1)
              · exact absurd (hwt q hqt) hqw
              · refine hsub _ (hc q h1 ?_ k hk hs)
                rw [hsplit, List.mem_append, List.mem_singleton]
                rintro (h2 | h2)
                · exact hqt h2
                · exact hqa h2
          · exact absurd h1 hqw
          · rw [h1] at hq
            exact absurd hq (ht.not hfound)
termination_by n _ _ _ _ => n
decreasing_by omega
end Go.Proofs.Ytcgdbjojjpoegaa.P

/- A way round of an amount that is not whole is found, and what it is: plain law. -/
namespace Go.Proofs.Ytcgdbjojjpoegaa.P
open Go.RowKit Go.Proofs.YtcgdbjojjpoegaaW.PrintWords Go.Proofs.YtcgdbjojjpoegaaW.PrintLast Go.Proofs.YtcgdbjojjpoegaaW.PrintMore
set_option linter.unusedVariables false
set_option linter.unusedSimpArgs false

/-- how much goes out of some places, less what comes in -/
def outA (S : Int → Bool) (a : Am) : Int := (if S a.fr = true then a.pa else 0) - (if S a.tt = true then a.pa else 0)
def outS (S : Int → Bool) (am : List Am) : Int := (am.map (outA S)).sum
/-- As much goes out of any places as comes in. -/
def Cons (am : List Am) : Prop := ∀ S : Int → Bool, outS S am = 0
def NoLoop (am : List Am) : Prop := ∀ k : Nat, k < am.length → (amAt am k).fr ≠ (amAt am k).tt
theorem dvd_all {d : Int} {f : Am → Int} : ∀ (l : List Am), (∀ k (hk : k < l.length), d ∣ f l[k]) → d ∣ (l.map f).sum
  | [], _ => by simp
  | a :: l, h => by
    rw [List.map_cons, List.sum_cons]
    have h0 := h 0 (by simp)
    simp only [List.getElem_cons_zero] at h0
    refine Int.dvd_add h0 (dvd_all l fun k hk => ?_)
    have := h (k + 1) (by simpa using hk)
    simpa using this
theorem dvd_split {d : Int} {f : Am → Int} : ∀ (l : List Am) (i : Nat) (hi : i < l.length), (∀ k (hk : k < l.length), k ≠ i → d ∣ f l[k]) → d ∣ (l.map f).sum → d ∣ f l[i]
  | [], i, hi, _, _ => by simp at hi
  | a :: l, 0, hi, h, hs => by
    rw [List.map_cons, List.sum_cons] at hs
    have h1 : d ∣ (l.map f).sum := dvd_all l fun k hk => by
      have := h (k + 1) (by simpa using hk) (by omega)
      simpa using this
    simp only [List.getElem_cons_zero]
    exact (Int.dvd_iff_dvd_of_dvd_add hs).2 h1
  | a :: l, i + 1, hi, h, hs => by
    rw [List.map_cons, List.sum_cons] at hs
    have h0 := h 0 (by simp) (by omega)
    simp only [List.getElem_cons_zero] at h0
    have h1 : d ∣ (l.map f).sum := (Int.dvd_iff_dvd_of_dvd_add hs).1 h0
    simp only [List.getElem_cons_succ]
    refine dvd_split l i (by simpa using hi) (fun k hk hki => ?_) h1
    have := h (k + 1) (by simpa using hk) (by omega)
    simpa using this
theorem brk_dvd {den : Int} {a : Am} : brk den a = false ↔ den ∣ a.pa := by
  unfold brk
  rw [bne_eq_false_iff_eq]
  exact ⟨Int.dvd_of_tmod_eq_zero, Int.tmod_eq_zero_of_dvd⟩
theorem brk_true {den : Int} {a : Am} : brk den a = true ↔ ¬ den ∣ a.pa := by
  rw [← brk_dvd]
  simp
/-- Where nothing is lost the search can't stop without its goal. -/
theorem no_stop {den : Int} {am : List Am} {i : Nat} (hi : i < am.length) (hc : Cons am) (hb : brk den (amAt am i) = true) {ord : List Int} (hh : (amAt am i).tt ∈ ord) (hg : (amAt am i).fr ∉ ord) (hcl : Closed den am (i : Int) ord []) : False := by
  have h1 := hc fun q => decide (q ∈ ord)
  have h2 : den ∣ outS (fun q => decide (q ∈ ord)) am := by rw [h1]; exact Int.dvd_zero _
  have h3 := dvd_split (d := den) (f := outA fun q => decide (q ∈ ord)) am i hi (fun k hk hki => ?_) h2
  · rw [amAt_nat am i hi] at hb hh hg
    unfold outA at h3
    rw [if_neg (by simpa using hg), if_pos (by simpa using hh)] at h3
    rw [brk_true] at hb
    refine hb ?_
    have h4 := Int.dvd_neg.2 h3
    rwa [show -(0 - am[i].pa) = am[i].pa by omega] at h4
  · unfold outA
    cases hbk : brk den am[k] with
    | false =>
      have := brk_dvd.1 hbk
      split <;> split <;> simp [this, Int.dvd_neg]
    | true =>
      have e := amAt_nat am k hk
      have hiff : am[k].fr ∈ ord ↔ am[k].tt ∈ ord := by
        constructor
        · intro hf
          have h5 := hcl am[k].fr hf (by simp) k hk (by
            unfold isStep stepOf
            rw [e, hbk]
            split
            · rename_i h6
              simp [h6]
              omega
            · simp
              omega)
          rw [e] at h5
          unfold stepOf at h5
          split at h5
          · rename_i h6
            rw [h6]
            exact hf
          · exact h5
        · intro hf
          have h5 := hcl am[k].tt hf (by simp) k hk (by
            unfold isStep stepOf
            rw [e, hbk, if_pos rfl]
            simp
            omega)
          rw [e] at h5
          unfold stepOf at h5
          rw [if_pos rfl] at h5
          exact h5
      by_cases hf : am[k].fr ∈ ord
      · rw [if_pos (by simpa using hf), if_pos (by simpa using hiff.1 hf)]
        rw [Int.sub_self]
        exact Int.dvd_zero _
      · rw [if_neg (by simpa using hf), if_neg (by simpa using fun h => hf (hiff.2 h))]
        simp
/-- A way back from a place to the one where the search began. -/
def Path (home : Int) : List S117 → Int → Prop
  | [], at_ => at_ = home
  | s :: r, at_ => s.f2 = at_ ∧ Path home r s.f1
theorem backR_path {den : Int} {am : List Am} {i home : Int} {s : RSt} {ord : List Int} {rk : Int → Nat} (h : SI den am i home s ord rk) : ∀ (fuel : Nat) (at_ : Int) (by_ : Int → Option S117) (out : List S117), at_ ∈ ord → rk at_ ≤ fuel → (∀ q ∈ ord, rk q ≤ rk at_ → by_ q = s.by_ q) →
    ∃ r, backR home fuel by_ at_ out = some (out ++ r) ∧ Path home r at_ ∧ (∀ x ∈ r, StepOK den am i x ∧ rk x.f1 < rk x.f2 ∧ rk x.f2 ≤ rk at_) ∧ r.Pairwise (fun x y => rk y.f2 < rk x.f2) ∧ (at_ ≠ home → r ≠ [])
  | fuel, at_, by_, out, ha, hf, hb => by
    by_cases he : at_ = home
    · refine ⟨[], ?_, he, by simp, List.Pairwise.nil, fun hn => absurd he hn⟩
      cases fuel with
      | zero => rw [backR, if_pos he, List.append_nil]
      | succ f => rw [backR, if_pos he, List.append_nil]
    · obtain ⟨x, x1, x2, x3, x4, x5⟩ := h.by1 at_ ha he
      cases fuel with
      | zero => omega
      | succ f =>
        have hbx : by_ at_ = some x := by rw [hb at_ ha (Nat.le_refl _), x1]
        have hz : ¬ x = z117 := by
          intro e
          rw [← x2, e] at x5
          exact Nat.lt_irrefl _ x5
        rw [backR, if_neg he, hbx]
        simp only [Option.getD_some]
        rw [if_neg hz]
        obtain ⟨r, r1, r2, r3, r4, _⟩ := backR_path h f x.f1 (fun q => if q = at_ then none else by_ q) (out ++ [x]) x4 (by omega) (fun q hq hqr => by
          have hne : q ≠ at_ := by
            intro e
            rw [e] at hqr
            omega
          show (if q = at_ then none else by_ q) = _
          rw [if_neg hne]
          exact hb q hq (by omega))
        refine ⟨x :: r, by rw [r1, List.append_assoc]; rfl, ⟨x2, r2⟩, fun y hy => ?_, ?_, fun _ => by simp⟩
        · rw [List.mem_cons] at hy
          rcases hy with rfl | hy
          · exact ⟨x3, by rw [x2]; exact x5, by rw [x2]; exact Nat.le_refl _⟩
          · obtain ⟨y1, y2, y3⟩ := r3 y hy
            exact ⟨y1, y2, by omega⟩
        · rw [List.pairwise_cons]
          refine ⟨fun y hy => ?_, r4⟩
          have := (r3 y hy).2.2
          rw [x2]
          omega
theorem StepOK.ends {den : Int} {am : List Am} {i : Int} {x : S117} (h : StepOK den am i x) : ∃ k : Nat, k < am.length ∧ x.f0 = (k : Int) ∧ (k : Int) ≠ i ∧ brk den (amAt am k) = true ∧ ((x.f1 = (amAt am k).fr ∧ x.f2 = (amAt am k).tt) ∨ (x.f1 = (amAt am k).tt ∧ x.f2 = (amAt am k).fr)) := by
  obtain ⟨k, hk, e, hs⟩ := h
  unfold isStep at hs
  simp only [Bool.and_eq_true, Bool.not_eq_true', beq_eq_false_iff_ne, ne_eq, beq_iff_eq] at hs
  refine ⟨k, hk, ?_, hs.1, hs.2.2, ?_⟩
  · rw [e]
    unfold stepOf
    split <;> rfl
  · rw [e]
    unfold stepOf
    split
    · exact .inr ⟨rfl, rfl⟩
    · exact .inl ⟨rfl, rfl⟩
/-- The way round that is found: it leads from the end of the amount to its beginning, by amounts that are not whole, each just once. -/
structure Way (den : Int) (am : List Am) (i : Nat) (r : List S117) : Prop where
  path : Path (amAt am i).tt r (amAt am i).fr
  ok : ∀ x ∈ r, StepOK den am i x
  ne : r ≠ []
  nd : (r.map (·.f0)).Nodup
theorem round_way {den : Int} {am : List Am} {i : Nat} (hi : i < am.length) (hok : AmOk am) (hc : Cons am) (hl : NoLoop am) (hb : brk den (amAt am i) = true) : ∃ r, roundR den am i = some r ∧ Way den am i r := by
  have hpl := hok _ (List.getElem_mem hi)
  rw [← amAt_nat am i hi] at hpl
  have hne := hl i hi
  generalize eh : (amAt am i).tt = home at *
  generalize eg : (amAt am i).fr = goal at *
  have hs0 : SI den am (i : Int) home (startR home) [home] (fun _ => 0) := by
    refine ⟨by simp, ?_, by simp, by simp [startR], ?_, ?_, by simp, by simp [startR]⟩
    · intro q hq
      rw [List.mem_singleton] at hq
      rw [hq]
      exact hpl.2
    · intro q hq hq'
      unfold startR
      simp only
      rw [getD_set_z _ _ _ _ (by rw [List.length_replicate]; omega), List.mem_singleton]
      by_cases e : q = home
      · rw [if_pos (by rw [e])]
        exact ⟨fun _ => e, fun _ => rfl⟩
      · rw [if_neg (by omega), rep0]
        exact ⟨fun a => absurd a (by decide), fun a => absurd a e⟩
    · intro q hq hqh
      rw [List.mem_singleton] at hq
      exact absurd hq hqh
  obtain ⟨s', ord', rk', h1, h2, h3⟩ := search_ok hok 14 20 (startR home) [home] _ hs0 (by rw [List.mem_singleton]; exact hne) (fun q hq hqw => by
    exact absurd hq (by simpa [startR] using hqw)) (by simp [startR]) (by omega)
  have hgo : goal ∈ ord' := by
    rcases h3 with h3 | ⟨h3, h4⟩
    · exact h3
    · exact absurd (no_stop hi hc hb (by rw [eh]; exact h2.hm) (by rw [eg]; exact h3) h4) id
  have hrk := h2.lt goal hgo
  have hle := h2.le
  obtain ⟨r, r1, r2, r3, r4, r5⟩ := backR_path h2 20 goal s'.by_ [] hgo (by omega) (fun q _ _ => rfl)
  refine ⟨r, ?_, ⟨by rw [eh, eg]; exact r2, fun x hx => (r3 x hx).1, r5 hne, ?_⟩⟩
  · unfold roundR
    rw [eh, eg, h1, Option.bind_some, r1, List.nil_append]
  · rw [List.nodup_iff_pairwise_ne, List.pairwise_map]
    refine List.Pairwise.imp_of_mem ?_ r4
    intro x y hx hy hxy e
    obtain ⟨x1, x2, _⟩ := r3 x hx
    obtain ⟨y1, y2, _⟩ := r3 y hy
    obtain ⟨k, _, k1, _, _, k2⟩ := x1.ends
    obtain ⟨k', _, k1', _, _, k2'⟩ := y1.ends
    have : k = k' := by omega
    subst this
    rcases k2 with ⟨a, b⟩ | ⟨a, b⟩ <;> rcases k2' with ⟨c, d⟩ | ⟨c, d⟩ <;> rw [a, b] at x2 <;> rw [c, d] at y2 <;> rw [b, d] at hxy <;> omega
end Go.Proofs.Ytcgdbjojjpoegaa.P

/- What a push does, and that settle and force end: plain law. -/
namespace Go.Proofs.Ytcgdbjojjpoegaa.P
open Go.RowKit Go.Proofs.YtcgdbjojjpoegaaW.PrintWords Go.Proofs.YtcgdbjojjpoegaaW.PrintLast Go.Proofs.YtcgdbjojjpoegaaW.PrintMore
set_option linter.unusedVariables false
set_option linter.unusedSimpArgs false

theorem wrap_id (x : Int) (h0 : -9223372036854775808 ≤ x) (h1 : x ≤ 9223372036854775807) : wrap64 x = x := by
  unfold wrap64
  omega
def indS (S : Int → Bool) (p : Int) : Int := if S p = true then 1 else 0
theorem outA_eq (S : Int → Bool) (a : Am) : outA S a = a.pa * (indS S a.fr - indS S a.tt) := by
  unfold outA indS
  split <;> split <;> simp
theorem sum_set (f : Am → Int) : ∀ (am : List Am) (k : Nat) (a : Am) (hk : k < am.length), ((am.set k a).map f).sum = (am.map f).sum + f a - f am[k]
  | [], k, a, hk => by simp at hk
  | b :: am, 0, a, hk => by
    simp only [List.set_cons_zero, List.map_cons, List.sum_cons, List.getElem_cons_zero]
    omega
  | b :: am, k + 1, a, hk => by
    have := sum_set f am k a (by simpa using hk)
    simp only [List.set_cons_succ, List.map_cons, List.sum_cons, List.getElem_cons_succ]
    omega
/-- a step by an amount, either way -/
structure StepA (am : List Am) (s : S117) (k : Nat) : Prop where
  lt : k < am.length
  f0 : s.f0 = (k : Int)
  ends : (s.f1 = (amAt am k).fr ∧ s.f2 = (amAt am k).tt) ∨ (s.f1 = (amAt am k).tt ∧ s.f2 = (amAt am k).fr)
  ne : (amAt am k).fr ≠ (amAt am k).tt
  p0 : 0 ≤ (amAt am k).pa
  p1 : (amAt am k).pa ≤ 1000000000
def wayS (S : Int → Bool) (w : List S117) : Int := (w.map fun s => indS S s.f1 - indS S s.f2).sum
theorem pushStep_at {more : Bool} {by_ : Int} {am : List Am} {s : S117} {k : Nat} (h : StepA am s k) (hb : 0 ≤ by_ ∧ by_ ≤ 1000) (j : Nat) :
    amAt (pushStep more by_ am s) (j : Int) = if j = k then ⟨(amAt am k).fr, (amAt am k).tt, if growsF am more s = true then (amAt am k).pa + by_ else (amAt am k).pa - by_⟩ else amAt am (j : Int) := by
  have h0 := h.p0
  have h1 := h.p1
  unfold pushStep
  rw [h.f0, Int.toNat_natCast, amAt_set am k j _ h.lt, wrap_id _ (by omega) (by omega), wrap_id _ (by omega) (by omega)]
theorem pushStep_out {more : Bool} {by_ : Int} {am : List Am} {s : S117} {k : Nat} (h : StepA am s k) (hb : 0 ≤ by_ ∧ by_ ≤ 1000) (S : Int → Bool) :
    outS S (pushStep more by_ am s) = outS S am + (if more = true then by_ else -by_) * (indS S s.f1 - indS S s.f2) := by
  have h0 := h.p0
  have h1 := h.p1
  have hne := h.ne
  have hk := h.lt
  unfold outS pushStep
  rw [h.f0, Int.toNat_natCast, wrap_id _ (by omega) (by omega), wrap_id _ (by omega) (by omega), sum_set _ am k _ hk, outA_eq, outA_eq, ← amAt_nat am k hk]
  simp only
  have hg : growsF am more s = (((amAt am k).fr == s.f1) == more) := by unfold growsF; rw [h.f0]
  rw [hg]
  have hends := h.ends
  clear hg
  generalize (amAt am k).pa = p at *
  generalize (amAt am k).fr = f at *
  generalize (amAt am k).tt = t at *
  rcases hends with ⟨e1, e2⟩ | ⟨e1, e2⟩
  · rw [e1, e2]
    generalize indS S f - indS S t = d
    cases more
    · simp
      rw [Int.sub_mul, Int.neg_mul]
      omega
    · simp
      rw [Int.add_mul]
      omega
  · rw [e1, e2]
    have hft : (f == t) = false := beq_eq_false_iff_ne.mpr hne
    rw [hft, show indS S t - indS S f = -(indS S f - indS S t) by omega]
    generalize indS S f - indS S t = d
    cases more
    · simp
      rw [Int.add_mul, Int.neg_mul, Int.mul_neg]
      omega
    · simp
      rw [Int.sub_mul, Int.mul_neg]
      omega
theorem StepA.step {more : Bool} {by_ : Int} {am : List Am} {s x : S117} {k j : Nat} (h : StepA am s k) (hx : StepA am x j) (hkj : k ≠ j) (hb : 0 ≤ by_ ∧ by_ ≤ 1000) : StepA (pushStep more by_ am s) x j := by
  have e := pushStep_at (more := more) h hb j
  rw [if_neg (fun h => hkj h.symm)] at e
  refine ⟨by rw [(pushStep_alike k h.lt h.f0).1]; exact hx.lt, hx.f0, ?_, ?_, ?_, ?_⟩ <;> rw [e]
  · exact hx.ends
  · exact hx.ne
  · exact hx.p0
  · exact hx.p1
/-- What a push makes of the amounts. -/
theorem fold_push {more : Bool} {by_ : Int} (hb : 0 ≤ by_ ∧ by_ ≤ 1000) : ∀ (w : List S117) (am : List Am), (∀ s ∈ w, ∃ k, StepA am s k) → (w.map (·.f0)).Nodup →
    Alike am (w.foldl (pushStep more by_) am) ∧ (∀ j : Nat, (∀ s ∈ w, s.f0 ≠ (j : Int)) → amAt (w.foldl (pushStep more by_) am) (j : Int) = amAt am (j : Int)) ∧
    (∀ s ∈ w, (amAt (w.foldl (pushStep more by_) am) s.f0).pa = if growsF am more s = true then (amAt am s.f0).pa + by_ else (amAt am s.f0).pa - by_) ∧
    ∀ S, outS S (w.foldl (pushStep more by_) am) = outS S am + (if more = true then by_ else -by_) * wayS S w
  | [], am, _, _ => ⟨Alike.refl am, fun j _ => rfl, by simp, fun S => by simp [wayS]⟩
  | s :: w, am, h, hn => by
    obtain ⟨k, hk⟩ := h s (by simp)
    rw [List.map_cons, List.nodup_cons] at hn
    have hw : ∀ x ∈ w, ∃ j, StepA am x j ∧ k ≠ j := by
      intro x hx
      obtain ⟨j, hj⟩ := h x (by simp [hx])
      refine ⟨j, hj, fun e => hn.1 ?_⟩
      rw [List.mem_map]
      exact ⟨x, hx, by rw [hj.f0, hk.f0, e]⟩
    obtain ⟨h1, h2, h3, h4⟩ := fold_push hb w (pushStep more by_ am s) (fun x hx => by
      obtain ⟨j, hj, hkj⟩ := hw x hx
      exact ⟨j, hk.step hj hkj hb⟩) hn.2
    have hal := pushStep_alike (more := more) (by_ := by_) k hk.lt hk.f0
    rw [List.foldl_cons]
    refine ⟨hal.trans h1, fun j hj => ?_, fun x hx => ?_, fun S => ?_⟩
    · rw [h2 j (fun x hx => hj x (by simp [hx])), pushStep_at hk hb j, if_neg]
      intro e
      exact hj s (by simp) (by rw [hk.f0, e])
    · rw [List.mem_cons] at hx
      rcases hx with rfl | hx
      · rw [hk.f0, h2 k (fun y hy e => hn.1 (List.mem_map.2 ⟨y, hy, by rw [e, hk.f0]⟩)), pushStep_at hk hb k, if_pos rfl]
      · obtain ⟨j, hj, hkj⟩ := hw x hx
        have e := pushStep_at (more := more) hk hb j
        rw [if_neg (fun e => hkj e.symm)] at e
        rw [h3 x hx, growsF_alike hal j hj.lt hj.f0, hj.f0, e]
    · rw [h4 S, pushStep_out hk hb S]
      unfold wayS
      rw [List.map_cons, List.sum_cons, Int.mul_add]
      omega
theorem path_sum (S : Int → Bool) {home : Int} : ∀ (r : List S117) (at_ : Int), Path home r at_ → wayS S r = indS S home - indS S at_
  | [], at_, h => by
    have : at_ = home := h
    rw [this]
    simp [wayS]
  | s :: r, at_, h => by
    have h1 := path_sum S r s.f1 h.2
    have h2 := h.1
    unfold wayS at h1 ⊢
    rw [List.map_cons, List.sum_cons, h1, h2]
    omega
/-- an amount rounded down, and up -/
def flo (den a : Int) : Int := den * (a / den)
def cei (den a : Int) : Int := if den ∣ a then a else den * (a / den) + den
/-- b lies between a rounded down and up -/
def Near (den a b : Int) : Prop := flo den a ≤ b ∧ b ≤ cei den a
theorem flo_le {den a : Int} (h : 1 ≤ den) : flo den a ≤ a ∧ a < flo den a + den := by
  unfold flo
  have h1 := Int.mul_ediv_add_emod a den
  have h2 := Int.emod_nonneg a (show den ≠ 0 by omega)
  have h3 := Int.emod_lt_of_pos a (show 0 < den by omega)
  omega
theorem flo_dvd {den a : Int} (h : den ∣ a) : flo den a = a := Int.mul_ediv_cancel' h
theorem cei_le {den a : Int} (h : 1 ≤ den) : a ≤ cei den a ∧ cei den a < a + den ∨ a = cei den a := by
  unfold cei
  have h1 := flo_le (a := a) h
  unfold flo at h1
  split
  · exact .inr rfl
  · rename_i hd
    left
    have h2 : den * (a / den) ≠ a := fun e => hd (by rw [← e]; exact Int.dvd_mul_right _ _)
    omega
theorem Near.refl {den a : Int} (h : 1 ≤ den) : Near den a a := by
  have h1 := flo_le (a := a) h
  have h2 := cei_le (a := a) h
  exact ⟨h1.1, by omega⟩
theorem flo_mono {den q b : Int} (h : 1 ≤ den) (hq : den * q ≤ b) : den * q ≤ flo den b := by
  unfold flo
  have : q ≤ b / den := by
    rw [Int.le_ediv_iff_mul_le (by omega), Int.mul_comm]
    exact hq
  exact Int.mul_le_mul_of_nonneg_left this (by omega)
theorem cei_mono {den q b : Int} (h : 1 ≤ den) (hq : b ≤ den * q) : cei den b ≤ den * q := by
  unfold cei
  split
  · exact hq
  · rename_i hd
    have h1 : b < den * q := by
      rcases Int.lt_or_eq_of_le hq with h2 | h2
      · exact h2
      · exact absurd ⟨q, h2⟩ hd
    have h2 : b / den < q := by
      rw [Int.ediv_lt_iff_lt_mul (by omega), Int.mul_comm]
      exact h1
    have h3 := Int.mul_le_mul_of_nonneg_left (show b / den + 1 ≤ q by omega) (show 0 ≤ den by omega)
    rw [Int.mul_add, Int.mul_one] at h3
    exact h3
theorem cei_mul (den a : Int) : ∃ q, cei den a = den * q := by
  unfold cei
  split
  · rename_i h
    obtain ⟨q, e⟩ := h
    exact ⟨q, e⟩
  · exact ⟨a / den + 1, by rw [Int.mul_add, Int.mul_one]⟩
theorem Near.trans {den a b c : Int} (h : 1 ≤ den) (h1 : Near den a b) (h2 : Near den b c) : Near den a c := by
  have h3 := flo_mono (den := den) (q := a / den) h h1.1
  obtain ⟨q, e⟩ := cei_mul den a
  have h4 := h1.2
  rw [e] at h4
  have h5 := cei_mono h h4
  have h6 := h2.1
  have h7 := h2.2
  refine ⟨?_, ?_⟩
  · unfold flo
    omega
  · rw [e]
    omega
theorem Near.whole {den a b : Int} (h : den ∣ a) (hn : Near den a b) : b = a := by
  have h1 := hn.1
  have h2 := hn.2
  rw [flo_dvd h] at h1
  unfold cei at h2
  rw [if_pos h] at h2
  omega
/-- What amounts must be, for a push. -/
structure Good (den : Int) (am : List Am) : Prop where
  d1 : 1 ≤ den
  d2 : den ≤ 1000
  ok : AmOk am
  cons : Cons am
  loop : NoLoop am
  p0 : ∀ k : Nat, k < am.length → 0 ≤ (amAt am k).pa ∧ (amAt am k).pa ≤ 900000000
theorem leastB_fold (p : S117 → Int) : ∀ (l : List S117) (x : S117), (l.foldl (minB p) x = x ∨ l.foldl (minB p) x ∈ l) ∧ p (l.foldl (minB p) x) ≤ p x ∧ ∀ y ∈ l, p (l.foldl (minB p) x) ≤ p y
  | [], x => ⟨.inl rfl, Int.le_refl _, by simp⟩
  | y :: l, x => by
    rw [List.foldl_cons]
    obtain ⟨h1, h2, h3⟩ := leastB_fold p l (minB p x y)
    have hm : (minB p x y = x ∨ minB p x y = y) ∧ p (minB p x y) ≤ p x ∧ p (minB p x y) ≤ p y := by
      unfold minB
      split
      · exact ⟨.inr rfl, by omega, Int.le_refl _⟩
      · exact ⟨.inl rfl, Int.le_refl _, by omega⟩
    refine ⟨?_, by omega, fun z hz => ?_⟩
    · rcases h1 with h1 | h1
      · rcases hm.1 with h4 | h4
        · exact .inl (h1.trans h4)
        · exact .inr (by rw [h1, h4]; simp)
      · exact .inr (by simp [h1])
    · rw [List.mem_cons] at hz
      rcases hz with rfl | hz
      · omega
      · exact h3 z hz
theorem leastB_spec (p : S117 → Int) (x : S117) (l : List S117) : leastB p (x :: l) ∈ x :: l ∧ ∀ y ∈ x :: l, p (leastB p (x :: l)) ≤ p y := by
  obtain ⟨h1, h2, h3⟩ := leastB_fold p l x
  show l.foldl (minB p) x ∈ x :: l ∧ ∀ y ∈ x :: l, p (l.foldl (minB p) x) ≤ p y
  refine ⟨?_, fun y hy => ?_⟩
  · rcases h1 with h1 | h1
    · rw [h1]; simp
    · simp [h1]
  · rw [List.mem_cons] at hy
    rcases hy with rfl | hy
    · exact h2
    · exact h3 y hy
theorem room_spec {den : Int} {a : Am} (h1 : 1 ≤ den) (h2 : den ≤ 1000) (h0 : 0 ≤ a.pa) (hb : brk den a = true) (more : Bool) : 1 ≤ roomF den a more ∧ roomF den a more ≤ 1000 ∧ (more = true → a.pa + roomF den a more = flo den a.pa + den) ∧ (more = false → a.pa - roomF den a more = flo den a.pa) := by
  have hf := flo_le (a := a.pa) h1
  rw [brk_true] at hb
  have hne : flo den a.pa ≠ a.pa := fun e => hb (by rw [← e]; exact Int.dvd_mul_right _ _)
  have hm : a.pa.tmod den = a.pa - flo den a.pa := by
    rw [Int.tmod_eq_emod_of_nonneg h0]
    unfold flo
    have := Int.mul_ediv_add_emod a.pa den
    omega
  unfold roomF
  rw [hm, wrap_id _ (by omega) (by omega)]
  cases more
  · simp
    omega
  · simp
    omega
/-- A push: where an amount is not whole others go round with it until one is whole. -/
theorem push_ok {den : Int} {am : List Am} {i : Nat} (more : Bool) (hg : Good den am) (hi : i < am.length) (hb : brk den (amAt am i) = true) :
    ∃ am', pushR den am i more = some am' ∧ Alike am am' ∧ Cons am' ∧ (∀ j : Nat, j < am.length → Near den (amAt am j).pa (amAt am' j).pa) ∧ (∀ j : Nat, j < am.length → brk den (amAt am' j) = true → brk den (amAt am j) = true) ∧
      (∃ j : Nat, j < am.length ∧ brk den (amAt am j) = true ∧ brk den (amAt am' j) = false) ∧ (if more = true then (amAt am i).pa < (amAt am' i).pa else (amAt am' i).pa < (amAt am i).pa) := by
  obtain ⟨r, hr, hw⟩ := round_way hi hg.ok hg.cons hg.loop hb
  have hw0 : ∀ s ∈ wayR am i r, ∃ k : Nat, StepA am s k ∧ brk den (amAt am k) = true := by
    intro s hs
    unfold wayR at hs
    rw [List.mem_cons] at hs
    rcases hs with rfl | hs
    · exact ⟨i, ⟨hi, rfl, .inl ⟨rfl, rfl⟩, hg.loop i hi, (hg.p0 i hi).1, by have := (hg.p0 i hi).2; omega⟩, hb⟩
    · obtain ⟨k, hk, k0, _, kb, ke⟩ := (hw.ok s hs).ends
      exact ⟨k, ⟨hk, k0, ke, hg.loop k hk, (hg.p0 k hk).1, by have := (hg.p0 k hk).2; omega⟩, kb⟩
  have hnd : ((wayR am i r).map (·.f0)).Nodup := by
    unfold wayR
    rw [List.map_cons, List.nodup_cons]
    refine ⟨fun hm => ?_, hw.nd⟩
    obtain ⟨s, hs, e⟩ := List.mem_map.1 hm
    obtain ⟨k, hk, k0, kn, _, _⟩ := (hw.ok s hs).ends
    exact kn (by rw [← k0]; exact e)
  have hroom : ∀ s ∈ wayR am i r, ∀ k : Nat, StepA am s k → brk den (amAt am k) = true → roomT den am more s = roomF den (amAt am k) (growsF am more s) := by
    intro s hs k hk _
    unfold roomT
    rw [hk.f0]
  have hls := leastB_spec (roomT den am more) ⟨(i : Int), (amAt am i).fr, (amAt am i).tt⟩ r
  obtain ⟨hlm, hll⟩ := hls
  have hby : pushBy den am more (wayR am i r) = roomT den am more (leastB (roomT den am more) (wayR am i r)) := rfl
  obtain ⟨kl, hkl, hbl⟩ := hw0 _ hlm
  have hrl := room_spec hg.d1 hg.d2 hkl.p0 hbl (growsF am more (leastB (roomT den am more) (⟨(i : Int), (amAt am i).fr, (amAt am i).tt⟩ :: r)))
  have hrl2 := hroom _ hlm kl hkl hbl
  have hb01 : 1 ≤ pushBy den am more (wayR am i r) ∧ pushBy den am more (wayR am i r) ≤ 1000 := by
    rw [hby]
    refine ⟨?_, ?_⟩
    · rw [show leastB (roomT den am more) (wayR am i r) = leastB (roomT den am more) (⟨(i : Int), (amAt am i).fr, (amAt am i).tt⟩ :: r) from rfl, hrl2]
      exact hrl.1
    · rw [show leastB (roomT den am more) (wayR am i r) = leastB (roomT den am more) (⟨(i : Int), (amAt am i).fr, (amAt am i).tt⟩ :: r) from rfl, hrl2]
      exact hrl.2.1
  have hle : ∀ s ∈ wayR am i r, pushBy den am more (wayR am i r) ≤ roomT den am more s := hll
  obtain ⟨f1, f2, f3, f4⟩ := fold_push (more := more) (by_ := pushBy den am more (wayR am i r)) ⟨by omega, hb01.2⟩ (wayR am i r) am (fun s hs => by
    obtain ⟨k, hk, _⟩ := hw0 s hs
    exact ⟨k, hk⟩) hnd
  have hpush : pushR den am i more = some ((wayR am i r).foldl (pushStep more (pushBy den am more (wayR am i r))) am) := by
    unfold pushR
    rw [hr, Option.bind_some, if_neg hw.ne]
  generalize (wayR am i r).foldl (pushStep more (pushBy den am more (wayR am i r))) am = am' at *
  generalize hbe : pushBy den am more (wayR am i r) = b at *
  -- each amount of the way
  have hmove : ∀ s ∈ wayR am i r, ∀ k : Nat, StepA am s k → brk den (amAt am k) = true → Near den (amAt am k).pa (amAt am' k).pa := by
    intro s hs k hk hbk
    have h3 := f3 s hs
    have h5 := room_spec hg.d1 hg.d2 hk.p0 hbk (growsF am more s)
    have h6 := hle s hs
    rw [hroom s hs k hk hbk] at h6
    rw [hk.f0] at h3
    have h7 := flo_le (a := (amAt am k).pa) hg.d1
    have h8 : cei den (amAt am k).pa = flo den (amAt am k).pa + den := by
      unfold cei flo
      rw [if_neg (brk_true.1 hbk)]
    unfold Near
    rw [h3, h8]
    cases hgr : growsF am more s with
    | true =>
      rw [if_pos rfl]
      rw [hgr] at h5 h6
      have := h5.2.2.1 rfl
      omega
    | false =>
      rw [if_neg (by decide)]
      rw [hgr] at h5 h6
      have := h5.2.2.2 rfl
      omega
  refine ⟨am', hpush, f1, ?_, ?_, ?_, ?_, ?_⟩
  · intro S
    rw [f4 S, hg.cons S]
    have h1 := path_sum S r _ hw.path
    have h2 : wayS S (wayR am i r) = 0 := by
      unfold wayR wayS
      rw [List.map_cons, List.sum_cons]
      unfold wayS at h1
      rw [h1]
      simp only
      omega
    rw [h2]
    simp
  · intro j hj
    by_cases hex : ∃ s ∈ wayR am i r, s.f0 = (j : Int)
    · obtain ⟨s, hs, e⟩ := hex
      obtain ⟨k, hk, hbk⟩ := hw0 s hs
      have : k = j := by have := hk.f0; omega
      subst this
      exact hmove s hs k hk hbk
    · rw [f2 j (fun s hs e => hex ⟨s, hs, e⟩)]
      exact Near.refl hg.d1
  · intro j hj hbj
    by_cases hex : ∃ s ∈ wayR am i r, s.f0 = (j : Int)
    · obtain ⟨s, hs, e⟩ := hex
      obtain ⟨k, hk, hbk⟩ := hw0 s hs
      have : k = j := by have := hk.f0; omega
      subst this
      exact hbk
    · rw [f2 j (fun s hs e => hex ⟨s, hs, e⟩)] at hbj
      exact hbj
  · refine ⟨kl, hkl.lt, hbl, ?_⟩
    rw [brk_dvd]
    have h3 := f3 _ hlm
    have h4 : b = roomF den (amAt am kl) (growsF am more (leastB (roomT den am more) (⟨(i : Int), (amAt am i).fr, (amAt am i).tt⟩ :: r))) := by
      rw [← hrl2, ← hbe]
      rfl
    rw [hkl.f0] at h3
    rw [h3]
    have hfd : den ∣ flo den (amAt am kl).pa := Int.dvd_mul_right _ _
    cases hgr : growsF am more (leastB (roomT den am more) (⟨(i : Int), (amAt am i).fr, (amAt am i).tt⟩ :: r)) with
    | true =>
      rw [if_pos rfl]
      rw [hgr] at hrl h4
      rw [h4, hrl.2.2.1 rfl]
      exact Int.dvd_add hfd (Int.dvd_refl _)
    | false =>
      rw [if_neg (by decide)]
      rw [hgr] at hrl h4
      rw [h4, hrl.2.2.2 rfl]
      exact hfd
  · have h3 := f3 ⟨(i : Int), (amAt am i).fr, (amAt am i).tt⟩ (by unfold wayR; simp)
    have h4 : growsF am more ⟨(i : Int), (amAt am i).fr, (amAt am i).tt⟩ = more := by
      unfold growsF
      simp
    rw [h4] at h3
    simp only at h3
    rw [h3]
    cases more
    · simp
      omega
    · simp
      omega
end Go.Proofs.Ytcgdbjojjpoegaa.P

/- Settle and force end, with amounts that lie near those that were: plain law. -/
namespace Go.Proofs.Ytcgdbjojjpoegaa.P
open Go.RowKit Go.Proofs.YtcgdbjojjpoegaaW.PrintWords Go.Proofs.YtcgdbjojjpoegaaW.PrintLast Go.Proofs.YtcgdbjojjpoegaaW.PrintMore
set_option linter.unusedVariables false
set_option linter.unusedSimpArgs false

/-- amounts that go round, none of them too great -/
structure Base (N : Int) (den : Int) (am : List Am) : Prop where
  d1 : 1 ≤ den
  d2 : den ≤ 1000
  ok : AmOk am
  cons : Cons am
  loop : NoLoop am
  p0 : ∀ k : Nat, k < am.length → 0 ≤ (amAt am k).pa ∧ (amAt am k).pa ≤ N
/-- amounts that came of others -/
structure Inv (den : Int) (am0 am : List Am) : Prop where
  al : Alike am0 am
  cons : Cons am
  near : ∀ j : Nat, j < am0.length → Near den (amAt am0 j).pa (amAt am j).pa
theorem NoLoop.alike {am am2 : List Am} (h : NoLoop am) (ha : Alike am am2) : NoLoop am2 := by
  intro k hk
  have hk' : k < am.length := by rw [← ha.1]; exact hk
  rw [(ha.2 k hk').1, (ha.2 k hk').2]
  exact h k hk'
theorem Near.rng {den a b : Int} (h : 1 ≤ den) (h0 : 0 ≤ a) (hn : Near den a b) : 0 ≤ b ∧ b ≤ a + den := by
  have h1 := hn.1
  have h2 := hn.2
  have h3 := cei_le (a := a) h
  have h4 : 0 ≤ flo den a := Int.mul_nonneg (by omega) (Int.ediv_nonneg h0 (by omega))
  omega
theorem Inv.refl {N den : Int} {am : List Am} (h : Base N den am) : Inv den am am := ⟨Alike.refl am, h.cons, fun j _ => Near.refl h.d1⟩
theorem Inv.base {N den : Int} {am0 am : List Am} (h : Base N den am0) (hi : Inv den am0 am) : Base (N + 1000) den am := by
  refine ⟨h.d1, h.d2, h.ok.alike hi.al, hi.cons, h.loop.alike hi.al, fun k hk => ?_⟩
  have hk' : k < am0.length := by rw [← hi.al.1]; exact hk
  have := (hi.near k hk').rng h.d1 (h.p0 k hk').1
  have := (h.p0 k hk').2
  have := h.d2
  omega
theorem Base.good {N den : Int} {am : List Am} (h : Base N den am) (hN : N ≤ 900000000) : Good den am :=
  ⟨h.d1, h.d2, h.ok, h.cons, h.loop, fun k hk => ⟨(h.p0 k hk).1, by have := (h.p0 k hk).2; omega⟩⟩
theorem Inv.trans {N den : Int} {am0 am1 am2 : List Am} (h : Base N den am0) (h1 : Inv den am0 am1) (h2 : Inv den am1 am2) : Inv den am0 am2 :=
  ⟨h1.al.trans h2.al, h2.cons, fun j hj => (h1.near j hj).trans h.d1 (h2.near j (by rw [h1.al.1]; exact hj))⟩
/-- how many amounts are not whole -/
def brkN (den : Int) (am : List Am) : Nat := am.countP (brk den)
theorem countP_lt (p : Am → Bool) : ∀ (l l' : List Am), l'.length = l.length → (∀ k (h : k < l.length) (h' : k < l'.length), p l'[k] = true → p l[k] = true) → (∃ k, ∃ (h : k < l.length) (h' : k < l'.length), p l[k] = true ∧ p l'[k] = false) → l'.countP p < l.countP p
  | [], [], _, _, ⟨k, h, _⟩ => by simp at h
  | [], _ :: _, h, _, _ => by simp at h
  | _ :: _, [], h, _, _ => by simp at h
  | a :: l, a' :: l', hl, h, ⟨k, hk, hk', h1, h2⟩ => by
    have hl' : l'.length = l.length := by simpa using hl
    have hle : ∀ (l l' : List Am), l'.length = l.length → (∀ k (h : k < l.length) (h' : k < l'.length), p l'[k] = true → p l[k] = true) → l'.countP p ≤ l.countP p := by
      intro l
      induction l with
      | nil =>
        intro l' hl _
        have : l' = [] := List.length_eq_zero_iff.1 hl
        subst this
        simp
      | cons a l ih =>
        intro l' hl h
        cases l' with
        | nil => simp at hl
        | cons a' l' =>
          have h0 := h 0 (by simp) (by simp)
          simp only [List.getElem_cons_zero] at h0
          have := ih l' (by simpa using hl) (fun k hk hk' => by
            have := h (k + 1) (by simpa using hk) (by simpa using hk')
            simpa using this)
          rw [List.countP_cons, List.countP_cons]
          cases ha : p a' with
          | false => simp; omega
          | true => rw [h0 ha]; simp; omega
    have h0 := h 0 (by simp) (by simp)
    simp only [List.getElem_cons_zero] at h0
    have ht : ∀ k (h : k < l.length) (h' : k < l'.length), p l'[k] = true → p l[k] = true := fun k hk hk' => by
      have := h (k + 1) (by simpa using hk) (by simpa using hk')
      simpa using this
    rw [List.countP_cons, List.countP_cons]
    cases k with
    | zero =>
      simp only [List.getElem_cons_zero] at h1 h2
      have := hle l l' hl' ht
      rw [h1, h2]
      simp
      omega
    | succ k =>
      simp only [List.getElem_cons_succ] at h1 h2
      have := countP_lt p l l' hl' ht ⟨k, by simpa using hk, by simpa using hk', h1, h2⟩
      cases ha : p a' with
      | false => simp; omega
      | true => rw [h0 ha]; simp; omega
theorem brkN_lt {den : Int} {am am' : List Am} (hl : am'.length = am.length) (h : ∀ j : Nat, j < am.length → brk den (amAt am' j) = true → brk den (amAt am j) = true) (hx : ∃ j : Nat, j < am.length ∧ brk den (amAt am j) = true ∧ brk den (amAt am' j) = false) : brkN den am' < brkN den am := by
  refine countP_lt _ am am' hl (fun k hk hk' hb => ?_) ?_
  · have := h k hk
    rw [amAt_nat am k hk, amAt_nat am' k hk'] at this
    exact this hb
  · obtain ⟨j, hj, h1, h2⟩ := hx
    have hj' : j < am'.length := by rw [hl]; exact hj
    rw [amAt_nat am j hj] at h1
    rw [amAt_nat am' j hj'] at h2
    exact ⟨j, hj, hj', h1, h2⟩
theorem lastF_none {den : Int} {am : List Am} : ∀ k : Nat, lastF den am k = none → ∀ j : Nat, j < k → brk den (amAt am j) = false
  | 0, _, j, hj => by omega
  | k + 1, h, j, hj => by
    rw [lastF] at h
    cases hb : brk den (amAt am k) with
    | true => rw [hb] at h; simp at h
    | false =>
      rw [hb, if_neg (by decide)] at h
      rcases Nat.lt_or_ge j k with h1 | h1
      · exact lastF_none k h j h1
      · have : j = k := by omega
        subst this
        exact hb
theorem settle_inv {N den : Int} {am0 : List Am} (hB : Base N den am0) (hN : N ≤ 800000000) : ∀ (n fuel : Nat) (am : List Am), Inv den am0 am → brkN den am ≤ n → n ≤ fuel → ∃ am', settleR den fuel am = some am' ∧ Inv den am0 am' ∧ ∀ j : Nat, j < am0.length → brk den (amAt am' j) = false
  | n, fuel, am, hi, hn, hf => by
    have hg := (hi.base hB).good (by omega)
    cases hl : lastF den am am.length with
    | none =>
      refine ⟨am, ?_, hi, fun j hj => lastF_none _ hl j (by rw [hi.al.1]; exact hj)⟩
      cases fuel with
      | zero => rw [settleR, hl]
      | succ f => rw [settleR, hl]
    | some i =>
      obtain ⟨hil, hib⟩ := lastF_lt hl
      obtain ⟨am1, h1, h2, h3, h4, h5, h6, _⟩ := push_ok true hg hil hib
      have hlt := brkN_lt h2.1 h5 h6
      cases fuel with
      | zero => omega
      | succ f =>
        have hi1 : Inv den am0 am1 := ⟨hi.al.trans h2, h3, fun j hj => (hi.near j hj).trans hB.d1 (h4 j (by rw [hi.al.1]; exact hj))⟩
        obtain ⟨am', e, r⟩ := settle_inv hB hN (n - 1) f am1 hi1 (by omega) (by omega)
        refine ⟨am', ?_, r⟩
        rw [settleR, hl]
        show (pushR den am i true).bind (settleR den f) = some am'
        rw [h1, Option.bind_some, e]
termination_by n _ _ => n
decreasing_by omega
theorem brkN_le (den : Int) (am : List Am) : brkN den am ≤ am.length := List.countP_le_length
theorem settle_ok {N den : Int} {am : List Am} (hB : Base N den am) (hN : N ≤ 800000000) (fuel : Nat) (hf : am.length ≤ fuel) : ∃ am', settleR den fuel am = some am' ∧ Inv den am am' ∧ ∀ j : Nat, j < am.length → brk den (amAt am' j) = false :=
  settle_inv hB hN am.length fuel am (Inv.refl hB) (brkN_le den am) hf
end Go.Proofs.Ytcgdbjojjpoegaa.P

/- What a book of a table is: its cells, the sums of lines, of columns, and of all: plain law. -/
namespace Go.Proofs.Ytcgdbjojjpoegaa.P
open Go.RowKit Go.Proofs.YtcgdbjojjpoegaaW.PrintWords Go.Proofs.YtcgdbjojjpoegaaW.PrintLast Go.Proofs.YtcgdbjojjpoegaaW.PrintMore
set_option linter.unusedVariables false
set_option linter.unusedSimpArgs false

def rowA (i : Nat) : Nat → List Int → List Am
  | _, [] => []
  | k, x :: xs => ⟨(i : Int), 6 + (k : Int), x⟩ :: rowA i (k + 1) xs
def rowsA : Nat → List (List Int) → List Am
  | _, [] => []
  | i, x :: l => rowA i 0 x ++ rowsA (i + 1) l
def lineS (l : List (List Int)) (i : Nat) : Int := (l.getD i []).sum
def colS (l : List (List Int)) (k : Nat) : Int := (l.map fun x => x.getD k 0).sum
def allS (l : List (List Int)) : Int := (l.map List.sum).sum
def bookX (l : List (List Int)) (n m : Nat) : List Am :=
  rowsA 0 l ++ (List.range n).map (fun (i : Nat) => ⟨12, (i : Int), lineS l i⟩) ++ (List.range m).map (fun (k : Nat) => ⟨6 + (k : Int), 13, colS l k⟩) ++ [⟨13, 12, allS l⟩]
/-- numbers that do not become too great -/
def Small (xs : List Int) : Prop := ∀ x ∈ xs, 0 ≤ x ∧ x ≤ 100000000
structure BS (T : Nat) (s : Bs) : Prop where
  of : ∀ p : Nat, 0 ≤ s.of.getD p 0 ∧ s.of.getD p 0 ≤ 100000000 * (T : Int)
  all : 0 ≤ s.all ∧ s.all ≤ 100000000 * (T : Int)
theorem stepB_spec {n i k : Nat} {x : Int} {s : Bs} {T : Nat} (h : BS T s) (hx : 0 ≤ x ∧ x ≤ 100000000) (hT : T ≤ 1000) (hi : i < n) (hk : n + k < s.of.length) :
    (stepB n i k x s).am = s.am ++ [⟨(i : Int), 6 + (k : Int), x⟩] ∧ (stepB n i k x s).of.length = s.of.length ∧ (∀ p : Nat, (stepB n i k x s).of.getD p 0 = s.of.getD p 0 + (if p = i then x else 0) + (if p = n + k then x else 0)) ∧ (stepB n i k x s).all = s.all + x ∧ BS (T + 1) (stepB n i k x s) := by
  have hof := h.of
  have hall := h.all
  have h1 : ∀ p : Nat, (stepB n i k x s).of.getD p 0 = s.of.getD p 0 + (if p = i then x else 0) + (if p = n + k then x else 0) := by
    intro p
    unfold stepB
    simp only
    have a1 := hof i
    have a2 := hof (n + k)
    rw [getD_set_z _ _ _ _ (by rw [List.length_set]; omega), getD_set_z _ _ _ _ (by omega), wrap_id (s.of.getD i 0 + x) (by omega) (by omega), getD_set_z _ _ _ _ (by omega), if_neg (show ¬ n + k = i by omega), wrap_id _ (by omega) (by omega)]
    by_cases e1 : p = n + k
    · subst e1
      rw [if_pos rfl, if_neg (by omega), if_pos rfl]
      omega
    · rw [if_neg e1, if_neg e1]
      by_cases e2 : p = i
      · subst e2
        rw [if_pos rfl, if_pos rfl]
        omega
      · rw [if_neg e2, if_neg e2]
        omega
  have h2 : (stepB n i k x s).all = s.all + x := by
    unfold stepB
    simp only
    rw [wrap_id _ (by omega) (by omega)]
  refine ⟨rfl, by simp [stepB], h1, h2, ⟨fun p => ?_, ?_⟩⟩
  · rw [h1]
    have := hof p
    split <;> split <;> omega
  · rw [h2]
    omega
theorem lineB_spec {n i : Nat} (hi : i < n) : ∀ (xs : List Int) (k : Nat) (s : Bs) (T : Nat), BS T s → Small xs → T + xs.length ≤ 1000 → n + k + xs.length ≤ s.of.length →
    (lineB n i k xs s).am = s.am ++ rowA i k xs ∧ (lineB n i k xs s).of.length = s.of.length ∧ (∀ p : Nat, (lineB n i k xs s).of.getD p 0 = s.of.getD p 0 + (if p = i then xs.sum else 0) + (if n + k ≤ p then xs.getD (p - (n + k)) 0 else 0)) ∧ (lineB n i k xs s).all = s.all + xs.sum ∧ BS (T + xs.length) (lineB n i k xs s)
  | [], k, s, T, h, _, _, _ => ⟨by simp [lineB, rowA], rfl, fun p => by simp [lineB], by simp [lineB], h⟩
  | x :: xs, k, s, T, h, hs, hT, hl => by
    rw [List.length_cons] at hT hl
    obtain ⟨a1, a2, a3, a4, a5⟩ := stepB_spec (n := n) (i := i) (k := k) h (hs x (by simp)) (by omega) hi (by omega)
    obtain ⟨b1, b2, b3, b4, b5⟩ := lineB_spec hi xs (k + 1) (stepB n i k x s) (T + 1) a5 (fun y hy => hs y (by simp [hy])) (by omega) (by rw [a2]; omega)
    rw [lineB]
    refine ⟨by rw [b1, a1, rowA, List.append_assoc]; rfl, by rw [b2, a2], fun p => ?_, by rw [b4, a4, List.sum_cons]; omega, by rw [List.length_cons, show T + (xs.length + 1) = T + 1 + xs.length by omega]; exact b5⟩
    rw [b3, a3, List.sum_cons]
    by_cases e1 : p = n + k
    · subst e1
      have h1 : ¬ n + k = i := by omega
      have h2 : ¬ n + (k + 1) ≤ n + k := by omega
      simp only [if_neg h1, if_neg h2, if_true, Nat.le_refl, Nat.sub_self, List.getD_cons_zero]
      omega
    · by_cases e2 : n + (k + 1) ≤ p
      · have h1 : ¬ p = i := by omega
        have h2 : n + k ≤ p := by omega
        simp only [if_neg h1, if_neg e1, if_pos e2, if_pos h2]
        rw [show p - (n + k) = (p - (n + (k + 1))) + 1 by omega, List.getD_cons_succ]
        omega
      · have h2 : ¬ n + k ≤ p := by omega
        simp only [if_neg e1, if_neg e2, if_neg h2]
        split <;> omega
theorem linesB_spec {n : Nat} {m : Nat} : ∀ (l : List (List Int)) (i : Nat) (s : Bs) (T : Nat), BS T s → (∀ x ∈ l, Small x ∧ x.length = m) → m ≤ 10 → T + l.length * 10 ≤ 1000 → i + l.length ≤ n → n + m ≤ s.of.length →
    (linesB n i l s).am = s.am ++ rowsA i l ∧ (linesB n i l s).of.length = s.of.length ∧ (∀ p : Nat, (linesB n i l s).of.getD p 0 = s.of.getD p 0 + (if i ≤ p ∧ p < n then (l.getD (p - i) []).sum else 0) + (if n ≤ p then (l.map fun x => x.getD (p - n) 0).sum else 0)) ∧ (linesB n i l s).all = s.all + allS l
  | [], i, s, T, h, _, _, _, _, _ => ⟨by simp [linesB, rowsA], rfl, fun p => by simp [linesB], by simp [linesB, allS]⟩
  | x :: l, i, s, T, h, hs, hm, hT, hi, hl => by
    rw [List.length_cons] at hT hi
    obtain ⟨hx, hxm⟩ := hs x (by simp)
    obtain ⟨a1, a2, a3, a4, a5⟩ := lineB_spec (n := n) (i := i) (by omega) x 0 s T h hx (by omega) (by omega)
    obtain ⟨b1, b2, b3, b4⟩ := linesB_spec (n := n) (m := m) l (i + 1) (lineB n i 0 x s) (T + x.length) a5 (fun y hy => hs y (by simp [hy])) hm (by omega) (by omega) (by rw [a2]; exact hl)
    rw [linesB]
    refine ⟨by rw [b1, a1, rowsA, List.append_assoc], by rw [b2, a2], fun p => ?_, by rw [b4, a4]; unfold allS; rw [List.map_cons, List.sum_cons]; omega⟩
    rw [b3, a3, List.map_cons, List.sum_cons, Nat.add_zero]
    by_cases e1 : n ≤ p
    · have h1 : ¬ p = i := by omega
      have h2 : ¬ (i + 1 ≤ p ∧ p < n) := by omega
      have h3 : ¬ (i ≤ p ∧ p < n) := by omega
      simp only [if_neg h1, if_neg h2, if_neg h3, if_pos e1]
      omega
    · by_cases e2 : p = i
      · subst e2
        have h2 : ¬ (p + 1 ≤ p ∧ p < n) := by omega
        have h3 : p ≤ p ∧ p < n := by omega
        simp only [if_neg h2, if_pos h3, if_neg e1, if_true, Nat.sub_self, List.getD_cons_zero]
        omega
      · by_cases e3 : i + 1 ≤ p ∧ p < n
        · have h3 : i ≤ p ∧ p < n := by omega
          simp only [if_neg e2, if_neg e1, if_pos e3, if_pos h3]
          rw [show p - i = (p - (i + 1)) + 1 by omega, List.getD_cons_succ]
          omega
        · have h3 : ¬ (i ≤ p ∧ p < n) := by omega
          simp only [if_neg e2, if_neg e1, if_neg e3, if_neg h3]
          omega
/-- What a table is that a book takes, with numbers that do not become too great. -/
structure TabS (l : List (List Int)) : Prop where
  tab : Tab l
  small : ∀ x ∈ l, Small x
theorem bookAm_eq {l : List (List Int)} (h : TabS l) : bookAm l = bookX l l.length (rd_L2 l 0).length := by
  have hn6 := h.tab.n6
  have hm6 := h.tab.m6
  obtain ⟨b1, b2, b3, b4⟩ := linesB_spec (n := l.length) (m := (rd_L2 l 0).length) l 0 ⟨[], List.replicate (l.length + (rd_L2 l 0).length) 0, 0⟩ 0 ⟨fun p => by simp only; rw [rep0]; omega, by simp⟩ (fun x hx => ⟨h.small x hx, h.tab.eq x hx⟩) (by omega) (by omega) (by omega) (by simp)
  have hb : bookB l = linesB l.length 0 l ⟨[], List.replicate (l.length + (rd_L2 l 0).length) 0, 0⟩ := rfl
  unfold bookAm endB bookX
  rw [hb]
  rw [b1, b4, List.nil_append, Int.zero_add]
  have e1 : sumsL l.length (linesB l.length 0 l ⟨[], List.replicate (l.length + (rd_L2 l 0).length) 0, 0⟩).of l.length = (List.range l.length).map (fun (i : Nat) => (⟨12, (i : Int), lineS l i⟩ : Am)) := by
    unfold sumsL
    refine List.map_congr_left fun p hp => ?_
    rw [List.mem_range] at hp
    rw [b3 p]
    simp only
    rw [rep0, if_pos ⟨Nat.zero_le _, hp⟩, if_neg (by omega), Nat.sub_zero]
    unfold lineS
    simp
  have e2 : sumsC l.length (linesB l.length 0 l ⟨[], List.replicate (l.length + (rd_L2 l 0).length) 0, 0⟩).of (rd_L2 l 0).length = (List.range (rd_L2 l 0).length).map (fun (k : Nat) => (⟨6 + (k : Int), 13, colS l k⟩ : Am)) := by
    unfold sumsC
    refine List.map_congr_left fun p hp => ?_
    rw [b3 (l.length + p)]
    simp only
    rw [rep0, if_neg (by omega), if_pos (by omega), show l.length + p - l.length = p by omega]
    unfold colS
    simp
  rw [e1, e2]
theorem rowA_len (i : Nat) : ∀ (xs : List Int) (k : Nat), (rowA i k xs).length = xs.length
  | [], k => rfl
  | x :: xs, k => by rw [rowA, List.length_cons, rowA_len i xs (k + 1), List.length_cons]
theorem rowA_at (i : Nat) : ∀ (xs : List Int) (k j : Nat) (h : j < xs.length), (rowA i k xs)[j]? = some ⟨(i : Int), 6 + ((k + j : Nat) : Int), xs[j]⟩
  | [], k, j, h => by simp at h
  | x :: xs, k, 0, h => by simp [rowA]
  | x :: xs, k, j + 1, h => by
    rw [rowA, List.getElem?_cons_succ, rowA_at i xs (k + 1) j (by simpa using h)]
    simp
    omega
theorem rowsA_len (m : Nat) : ∀ (l : List (List Int)) (i : Nat), (∀ x ∈ l, x.length = m) → (rowsA i l).length = l.length * m
  | [], i, _ => by simp [rowsA]
  | x :: l, i, h => by
    rw [rowsA, List.length_append, rowA_len, h x (by simp), rowsA_len m l (i + 1) (fun y hy => h y (by simp [hy])), List.length_cons, Nat.add_mul]
    omega
theorem rowsA_at (m : Nat) : ∀ (l : List (List Int)) (i r k : Nat), (∀ x ∈ l, x.length = m) → r < l.length → k < m → (rowsA i l)[r * m + k]? = some ⟨((i + r : Nat) : Int), 6 + (k : Int), (l.getD r []).getD k 0⟩
  | [], i, r, k, _, h, _ => by simp at h
  | x :: l, i, 0, k, h, _, hk => by
    have hx := h x (by simp)
    rw [rowsA, Nat.zero_mul, Nat.zero_add, List.getElem?_append_left (by rw [rowA_len]; omega), rowA_at i x 0 k (by omega)]
    simp [List.getD, hx, hk]
  | x :: l, i, r + 1, k, h, hr, hk => by
    have hx := h x (by simp)
    rw [rowsA, List.getElem?_append_right (by rw [rowA_len, hx, Nat.add_mul]; omega), rowA_len, hx, show (r + 1) * m + k - m = r * m + k by rw [Nat.add_mul]; omega, rowsA_at m l (i + 1) r k (fun y hy => h y (by simp [hy])) (by simpa using hr) hk, List.getD_cons_succ, show i + 1 + r = i + (r + 1) by omega]
/-- The amounts of a book, one by one. -/
theorem bookX_cell {l : List (List Int)} {m : Nat} (h : ∀ x ∈ l, x.length = m) {r k : Nat} (hr : r < l.length) (hk : k < m) : amAt (bookX l l.length m) ((r * m + k : Nat) : Int) = ⟨(r : Int), 6 + (k : Int), (l.getD r []).getD k 0⟩ := by
  have h1 := rowsA_at m l 0 r k h hr hk
  have hlt : r * m + k < (rowsA 0 l).length := (List.getElem?_eq_some_iff.1 h1).1
  unfold amAt bookX
  rw [Int.toNat_natCast, List.getD_eq_getElem?_getD, List.append_assoc, List.append_assoc, List.getElem?_append_left hlt, h1]
  simp
theorem bookX_line {l : List (List Int)} {m : Nat} (h : ∀ x ∈ l, x.length = m) {r : Nat} (hr : r < l.length) : amAt (bookX l l.length m) ((l.length * m + r : Nat) : Int) = ⟨12, (r : Int), lineS l r⟩ := by
  have hl := rowsA_len m l 0 h
  unfold amAt bookX
  rw [Int.toNat_natCast, List.getD_eq_getElem?_getD, List.append_assoc, List.append_assoc, List.getElem?_append_right (by omega), hl, show l.length * m + r - l.length * m = r by omega, List.getElem?_append_left (by simpa using hr)]
  simp [hr]
theorem bookX_col {l : List (List Int)} {m : Nat} (h : ∀ x ∈ l, x.length = m) {k : Nat} (hk : k < m) : amAt (bookX l l.length m) ((l.length * m + l.length + k : Nat) : Int) = ⟨6 + (k : Int), 13, colS l k⟩ := by
  have hl := rowsA_len m l 0 h
  unfold amAt bookX
  rw [Int.toNat_natCast, List.getD_eq_getElem?_getD, List.append_assoc, List.append_assoc, List.getElem?_append_right (by omega), hl, show l.length * m + l.length + k - l.length * m = l.length + k by omega, List.getElem?_append_right (by simp), List.length_map, List.length_range, show l.length + k - l.length = k by omega, List.getElem?_append_left (by simpa using hk)]
  simp [hk]
theorem bookX_all {l : List (List Int)} {m : Nat} (h : ∀ x ∈ l, x.length = m) : amAt (bookX l l.length m) ((l.length * m + l.length + m : Nat) : Int) = ⟨13, 12, allS l⟩ := by
  have hl := rowsA_len m l 0 h
  unfold amAt bookX
  rw [Int.toNat_natCast, List.getD_eq_getElem?_getD, List.append_assoc, List.append_assoc, List.getElem?_append_right (by omega), hl, show l.length * m + l.length + m - l.length * m = l.length + m by omega, List.getElem?_append_right (by simp), List.length_map, List.length_range, show l.length + m - l.length = m by omega, List.getElem?_append_right (by simp)]
  simp
theorem bookX_len {l : List (List Int)} {m : Nat} (h : ∀ x ∈ l, x.length = m) : (bookX l l.length m).length = l.length * m + l.length + m + 1 := by
  unfold bookX
  simp [rowsA_len m l 0 h]
  omega
/-- Each amount is a cell, a line, a column, or all. -/
theorem index_cases {n m j : Nat} (hj : j < n * m + n + m + 1) (hm : 0 < m) : (∃ r k, r < n ∧ k < m ∧ j = r * m + k) ∨ (∃ r, r < n ∧ j = n * m + r) ∨ (∃ k, k < m ∧ j = n * m + n + k) ∨ j = n * m + n + m := by
  rcases Nat.lt_or_ge j (n * m) with h | h
  · left
    refine ⟨j / m, j % m, ?_, Nat.mod_lt _ hm, ?_⟩
    · rw [Nat.div_lt_iff_lt_mul hm]
      exact h
    · rw [Nat.mul_comm]
      exact (Nat.div_add_mod j m).symm
  · right
    rcases Nat.lt_or_ge j (n * m + n) with h2 | h2
    · exact .inl ⟨j - n * m, by omega, by omega⟩
    · right
      rcases Nat.lt_or_ge j (n * m + n + m) with h3 | h3
      · exact .inl ⟨j - (n * m + n), by omega, by omega⟩
      · exact .inr (by omega)
end Go.Proofs.Ytcgdbjojjpoegaa.P

/- The amounts of a book go round; what a rounding's amounts are: plain law. -/
namespace Go.Proofs.Ytcgdbjojjpoegaa.P
open Go.RowKit Go.Proofs.YtcgdbjojjpoegaaW.PrintWords Go.Proofs.YtcgdbjojjpoegaaW.PrintLast Go.Proofs.YtcgdbjojjpoegaaW.PrintMore
set_option linter.unusedVariables false
set_option linter.unusedSimpArgs false

/-- a sum with weights -/
def wS (c : Nat → Int) : Nat → List Int → Int
  | _, [] => 0
  | k, x :: xs => x * c k + wS c (k + 1) xs
theorem wS_range (c : Nat → Int) : ∀ (xs : List Int) (k : Nat), ((List.range xs.length).map fun j => xs.getD j 0 * c (k + j)).sum = wS c k xs
  | [], k => by simp [wS]
  | x :: xs, k => by
    rw [List.length_cons, List.range_succ_eq_map, List.map_cons, List.sum_cons, List.map_map]
    have h := wS_range c xs (k + 1)
    rw [wS, ← h]
    congr 1
    refine congrArg List.sum (List.map_congr_left fun j _ => ?_)
    simp only [Function.comp, List.getD_cons_succ]
    rw [show k + (j + 1) = k + 1 + j by omega]
theorem wS_add (c d : Nat → Int) : ∀ (xs : List Int) (k : Nat), wS (fun j => c j - d j) k xs = wS c k xs - wS d k xs
  | [], k => by simp [wS]
  | x :: xs, k => by
    rw [wS, wS, wS, wS_add c d xs (k + 1), Int.mul_sub]
    omega
theorem wS_const (v : Int) : ∀ (xs : List Int) (k : Nat), wS (fun _ => v) k xs = xs.sum * v
  | [], k => by simp [wS]
  | x :: xs, k => by
    rw [wS, wS_const v xs (k + 1), List.sum_cons, Int.add_mul]
theorem outS_append (S : Int → Bool) (a b : List Am) : outS S (a ++ b) = outS S a + outS S b := by
  unfold outS
  rw [List.map_append, List.sum_append]
theorem out_row (S : Int → Bool) (i : Nat) : ∀ (xs : List Int) (k : Nat), outS S (rowA i k xs) = xs.sum * indS S i - wS (fun j => indS S (6 + (j : Int))) k xs
  | [], k => by simp [outS, rowA, wS]
  | x :: xs, k => by
    have h := out_row S i xs (k + 1)
    unfold outS at h ⊢
    rw [rowA, List.map_cons, List.sum_cons, h, outA_eq, wS, List.sum_cons, Int.add_mul, Int.mul_sub]
    simp only
    omega
/-- sums of columns, with weights -/
def colW (c : Nat → Int) : List (List Int) → Int
  | [] => 0
  | x :: l => wS c 0 x + colW c l
theorem out_rows (S : Int → Bool) : ∀ (l : List (List Int)) (i : Nat), outS S (rowsA i l) = wS (fun j => indS S (j : Int)) i (l.map List.sum) - colW (fun j => indS S (6 + (j : Int))) l
  | [], i => by simp [outS, rowsA, wS, colW]
  | x :: l, i => by
    rw [rowsA, outS_append, out_row, out_rows S l (i + 1), List.map_cons, wS, colW]
    omega
theorem colW_range (c : Nat → Int) (m : Nat) : ∀ (l : List (List Int)), (∀ x ∈ l, x.length = m) → ((List.range m).map fun k => colS l k * c k).sum = colW c l
  | [], _ => by
    unfold colS colW
    induction m with
    | zero => simp
    | succ m ih => rw [List.range_succ, List.map_append, List.sum_append, ih (by simp)]; simp
  | x :: l, h => by
    have hx := h x (by simp)
    have h1 := colW_range c m l (fun y hy => h y (by simp [hy]))
    have h2 := wS_range c x 0
    rw [hx] at h2
    rw [colW, ← h1, ← h2]
    have key : ∀ (r : List Nat), (r.map fun k => colS (x :: l) k * c k).sum = (r.map fun j => x.getD j 0 * c (0 + j)).sum + (r.map fun k => colS l k * c k).sum := by
      intro r
      induction r with
      | nil => simp
      | cons k r ih =>
        rw [List.map_cons, List.map_cons, List.map_cons, List.sum_cons, List.sum_cons, List.sum_cons, ih, Nat.zero_add]
        unfold colS
        rw [List.map_cons, List.sum_cons, Int.add_mul]
        omega
    exact key _
theorem colW_const (v : Int) (l : List (List Int)) : colW (fun _ => v) l = allS l * v := by
  induction l with
  | nil => simp [colW, allS]
  | cons x l ih =>
    unfold allS at ih ⊢
    rw [colW, ih, wS_const, List.map_cons, List.sum_cons, Int.add_mul]
theorem colW_sub (c d : Nat → Int) (l : List (List Int)) : colW (fun j => c j - d j) l = colW c l - colW d l := by
  induction l with
  | nil => simp [colW]
  | cons x l ih =>
    rw [colW, colW, colW, ih, wS_add]
    omega
theorem bookX_cons {l : List (List Int)} {m : Nat} (h : ∀ x ∈ l, x.length = m) : Cons (bookX l l.length m) := by
  intro S
  unfold bookX
  rw [outS_append, outS_append, outS_append, out_rows]
  have e1 : outS S ((List.range l.length).map (fun (i : Nat) => (⟨12, (i : Int), lineS l i⟩ : Am))) = allS l * indS S 12 - wS (fun j => indS S (j : Int)) 0 (l.map List.sum) := by
    have h1 := wS_range (fun j => indS S 12 - indS S (j : Int)) (l.map List.sum) 0
    rw [wS_add (fun _ => indS S 12) (fun j => indS S (j : Int)), wS_const] at h1
    unfold allS
    rw [← h1]
    unfold outS
    rw [List.map_map, List.length_map]
    refine congrArg List.sum (List.map_congr_left fun j hj => ?_)
    rw [List.mem_range] at hj
    simp only [Function.comp, outA_eq, Nat.zero_add]
    congr 1
    unfold lineS
    simp [List.getD, hj]
  have e2 : outS S ((List.range m).map (fun (k : Nat) => (⟨6 + (k : Int), 13, colS l k⟩ : Am))) = colW (fun j => indS S (6 + (j : Int))) l - allS l * indS S 13 := by
    have h1 := colW_range (fun j => indS S (6 + (j : Int)) - indS S 13) m l h
    rw [colW_sub (fun j => indS S (6 + (j : Int))) (fun _ => indS S 13), colW_const] at h1
    rw [← h1]
    unfold outS
    rw [List.map_map]
    refine congrArg List.sum (List.map_congr_left fun j _ => ?_)
    simp only [Function.comp, outA_eq]
  have e3 : outS S [⟨13, 12, allS l⟩] = allS l * indS S 13 - allS l * indS S 12 := by
    unfold outS
    simp only [List.map_cons, List.map_nil, List.sum_cons, List.sum_nil, outA_eq, Int.mul_sub]
    omega
  rw [e1, e2, e3]
  omega
theorem sum_rng {C : Int} : ∀ (xs : List Int) (n : Nat), (∀ x ∈ xs, 0 ≤ x ∧ x ≤ C) → xs.length ≤ n → 0 ≤ C → 0 ≤ xs.sum ∧ xs.sum ≤ (n : Int) * C
  | [], n, _, _, hC => ⟨by simp, by simpa using Int.mul_nonneg (by omega) hC⟩
  | x :: xs, n, h, hn, hC => by
    cases n with
    | zero => simp at hn
    | succ n =>
      have h1 := h x (by simp)
      have h2 := sum_rng xs n (fun y hy => h y (by simp [hy])) (by simpa using hn) hC
      rw [List.sum_cons, show ((n + 1 : Nat) : Int) = (n : Int) + 1 by omega, Int.add_mul, Int.one_mul]
      omega
/-- a table whose numbers are at most C -/
def Upto (C : Int) (l : List (List Int)) : Prop := ∀ x ∈ l, ∀ v ∈ x, 0 ≤ v ∧ v ≤ C
theorem getD_mem_or (l : List (List Int)) (i : Nat) : l.getD i [] ∈ l ∨ l.getD i [] = [] := by
  rw [List.getD_eq_getElem?_getD]
  cases h : l[i]? with
  | none => exact .inr rfl
  | some x => exact .inl (List.mem_of_getElem? h)
theorem lineS_rng {C : Int} {l : List (List Int)} (hu : Upto C l) (hC : 0 ≤ C) (h6 : ∀ x ∈ l, x.length ≤ 6) (i : Nat) : 0 ≤ lineS l i ∧ lineS l i ≤ 6 * C := by
  unfold lineS
  rcases getD_mem_or l i with h | h
  · exact sum_rng _ 6 (hu _ h) (h6 _ h) hC
  · rw [h]
    simp
    omega
theorem colS_rng {C : Int} {l : List (List Int)} (hu : Upto C l) (hC : 0 ≤ C) (h6 : l.length ≤ 6) (k : Nat) : 0 ≤ colS l k ∧ colS l k ≤ 6 * C := by
  unfold colS
  refine sum_rng _ 6 (fun v hv => ?_) (by simpa using h6) hC
  obtain ⟨x, hx, rfl⟩ := List.mem_map.1 hv
  rw [List.getD_eq_getElem?_getD]
  cases h : x[k]? with
  | none => simpa using hC
  | some v => exact hu x hx v (List.mem_of_getElem? h)
theorem allS_rng {C : Int} {l : List (List Int)} (hu : Upto C l) (hC : 0 ≤ C) (h6 : ∀ x ∈ l, x.length ≤ 6) (hl : l.length ≤ 6) : 0 ≤ allS l ∧ allS l ≤ 36 * C := by
  unfold allS
  have := sum_rng (C := 6 * C) (l.map List.sum) 6 (fun v hv => by
    obtain ⟨x, hx, rfl⟩ := List.mem_map.1 hv
    exact sum_rng x 6 (hu x hx) (h6 x hx) hC) (by simpa using hl) (by omega)
  omega
/-- every amount of a book is one of these -/
theorem bookX_all4 {l : List (List Int)} {m : Nat} (h : ∀ x ∈ l, x.length = m) (hm : 0 < m) {P : Am → Prop} (h1 : ∀ r k, r < l.length → k < m → P ⟨(r : Int), 6 + (k : Int), (l.getD r []).getD k 0⟩) (h2 : ∀ r, r < l.length → P ⟨12, (r : Int), lineS l r⟩) (h3 : ∀ k, k < m → P ⟨6 + (k : Int), 13, colS l k⟩) (h4 : P ⟨13, 12, allS l⟩) (j : Nat) (hj : j < (bookX l l.length m).length) : P (amAt (bookX l l.length m) j) := by
  rw [bookX_len h] at hj
  rcases index_cases hj hm with ⟨r, k, hr, hk, rfl⟩ | ⟨r, hr, rfl⟩ | ⟨k, hk, rfl⟩ | rfl
  · rw [bookX_cell h hr hk]; exact h1 r k hr hk
  · rw [bookX_line h hr]; exact h2 r hr
  · rw [bookX_col h hk]; exact h3 k hk
  · rw [bookX_all h]; exact h4
theorem cell_rng {C : Int} {l : List (List Int)} (hu : Upto C l) (hC : 0 ≤ C) (r k : Nat) : 0 ≤ (l.getD r []).getD k 0 ∧ (l.getD r []).getD k 0 ≤ C := by
  rcases getD_mem_or l r with h | h
  · rw [List.getD_eq_getElem?_getD (l := l.getD r [])]
    cases h2 : (l.getD r [])[k]? with
    | none => simpa using hC
    | some v => exact hu _ h v (List.mem_of_getElem? h2)
  · rw [h]
    simpa using hC
theorem Upto.small {C : Int} {l : List (List Int)} (hu : Upto C l) (hC : C ≤ 100000000) : ∀ x ∈ l, Small x := fun x hx v hv => by
  have := hu x hx v hv
  omega
theorem book_base {C den : Int} {l : List (List Int)} (ht : Tab l) (hu : Upto C l) (hC : 0 ≤ C) (hC2 : C ≤ 20000000) (h1 : 1 ≤ den) (h2 : den ≤ 1000) : Base (36 * C) den (bookAm l) := by
  have he := bookAm_eq ⟨ht, hu.small (by omega)⟩
  have h6 : ∀ x ∈ l, x.length ≤ 6 := fun x hx => by rw [ht.eq x hx]; exact ht.m6
  have hn6 := ht.n6
  have hm6 := ht.m6
  refine ⟨h1, h2, ht.ok, ?_, ?_, ?_⟩
  · rw [he]
    exact bookX_cons ht.eq
  · rw [he]
    refine bookX_all4 (P := fun a => a.fr ≠ a.tt) ht.eq ht.m0 (fun r k hr hk => ?_) (fun r hr => ?_) (fun k hk => ?_) ?_
    · show (r : Int) ≠ 6 + (k : Int); omega
    · show (12 : Int) ≠ (r : Int); omega
    · show 6 + (k : Int) ≠ 13; omega
    · show (13 : Int) ≠ 12; decide
  · rw [he]
    refine bookX_all4 (P := fun a => 0 ≤ a.pa ∧ a.pa ≤ 36 * C) ht.eq ht.m0 (fun r k hr hk => ?_) (fun r hr => ?_) (fun k hk => ?_) ?_
    · have := cell_rng hu hC r k
      show 0 ≤ (l.getD r []).getD k 0 ∧ (l.getD r []).getD k 0 ≤ 36 * C
      omega
    · have := lineS_rng hu hC h6 r
      show 0 ≤ lineS l r ∧ lineS l r ≤ 36 * C
      omega
    · have := colS_rng hu hC hn6 k
      show 0 ≤ colS l k ∧ colS l k ≤ 36 * C
      omega
    · exact allS_rng hu hC h6 hn6
end Go.Proofs.Ytcgdbjojjpoegaa.P

/- The coins of amounts that are whole are a rounding: plain law. -/
namespace Go.Proofs.Ytcgdbjojjpoegaa.P
open Go.RowKit Go.Proofs.YtcgdbjojjpoegaaW.PrintWords Go.Proofs.YtcgdbjojjpoegaaW.PrintLast Go.Proofs.YtcgdbjojjpoegaaW.PrintMore
set_option linter.unusedVariables false
set_option linter.unusedSimpArgs false

theorem sum_one (g : Nat → Int) : ∀ (n j0 : Nat), j0 < n → (∀ j, j < n → j ≠ j0 → g j = 0) → ((List.range n).map g).sum = g j0
  | 0, j0, h, _ => by omega
  | n + 1, j0, h, hz => by
    rw [List.range_succ, List.map_append, List.sum_append]
    simp only [List.map_cons, List.map_nil, List.sum_cons, List.sum_nil, Int.add_zero]
    by_cases e : j0 = n
    · subst e
      have h0 : ∀ m, m ≤ j0 → ((List.range m).map g).sum = 0 := by
        intro m
        induction m with
        | zero => intro _; rfl
        | succ m ih =>
          intro hm
          rw [List.range_succ, List.map_append, List.sum_append, ih (by omega)]
          simp [hz m (by omega) (by omega)]
      rw [h0 j0 (Nat.le_refl _)]
      omega
    · rw [sum_one g n j0 (by omega) (fun j hj hne => hz j (by omega) hne), hz n (by omega) (fun h => e h.symm)]
      omega
theorem outS_range (S : Int → Bool) (X : List Am) : outS S X = ((List.range X.length).map fun (j : Nat) => outA S (amAt X j)).sum := by
  unfold outS
  congr 1
  apply List.ext_getElem
  · simp
  · intro j h1 h2
    have hj : j < X.length := by simpa using h1
    rw [List.getElem_map, List.getElem_map, List.getElem_range, amAt_nat X j hj]
/-- Where two lots of amounts go round between the same places, and all but one are as great, that one is, too. -/
theorem one_left {den : Int} {X Y : List Am} (hX : Cons X) (hY : Cons Y) (ha : Alike Y X) (S : Int → Bool) (j0 : Nat) (h0 : j0 < Y.length)
    (h : ∀ j : Nat, j < Y.length → j ≠ j0 → (amAt X j).pa = den * (amAt Y j).pa ∨ indS S (amAt Y j).fr = indS S (amAt Y j).tt) (hd : indS S (amAt Y j0).fr ≠ indS S (amAt Y j0).tt) : (amAt X j0).pa = den * (amAt Y j0).pa := by
  have hx := hX S
  have hy := hY S
  rw [outS_range] at hx hy
  rw [ha.1] at hx
  have hs : ((List.range Y.length).map fun (j : Nat) => ((amAt X j).pa - den * (amAt Y j).pa) * (indS S (amAt Y j).fr - indS S (amAt Y j).tt)).sum = 0 := by
    have key : ∀ n, n ≤ Y.length → ((List.range n).map fun (j : Nat) => ((amAt X j).pa - den * (amAt Y j).pa) * (indS S (amAt Y j).fr - indS S (amAt Y j).tt)).sum = ((List.range n).map fun (j : Nat) => outA S (amAt X j)).sum - den * ((List.range n).map fun (j : Nat) => outA S (amAt Y j)).sum := by
      intro n
      induction n with
      | zero => intro _; simp
      | succ n ih =>
        intro hn
        have h1 := ha.2 n (by omega)
        rw [List.range_succ, List.map_append, List.map_append, List.map_append, List.sum_append, List.sum_append, List.sum_append, ih (by omega)]
        simp only [List.map_cons, List.map_nil, List.sum_cons, List.sum_nil, Int.add_zero]
        rw [outA_eq, outA_eq, h1.1, h1.2, Int.sub_mul, Int.mul_add, Int.mul_assoc]
        omega
    rw [key _ (Nat.le_refl _), hx, hy]
    simp
  rw [sum_one _ Y.length j0 h0 (fun j hj hne => by
    rcases h j hj hne with h1 | h1
    · rw [h1, Int.sub_self, Int.zero_mul]
    · rw [h1, Int.sub_self, Int.mul_zero])] at hs
  rcases Int.mul_eq_zero.1 hs with h1 | h1
  · omega
  · omega
theorem coinF_mul {den : Int} {am : List Am} {q : Nat} (h1 : 1 ≤ den) (h0 : 0 ≤ (amAt am q).pa) (h2 : (amAt am q).pa ≤ 900000000) (hb : brk den (amAt am q) = false) : den * coinF den am q = (amAt am q).pa ∧ 0 ≤ coinF den am q ∧ coinF den am q ≤ (amAt am q).pa := by
  have hd := brk_dvd.1 hb
  obtain ⟨c, hc⟩ := hd
  have hc0 : 0 ≤ c := by
    rcases Int.lt_or_le c 0 with h | h
    · have := Int.mul_neg_of_pos_of_neg (show 0 < den by omega) h
      omega
    · exact h
  have hcl : c ≤ den * c := by
    have := Int.mul_le_mul_of_nonneg_right h1 hc0
    omega
  have e : (amAt am q).pa.tdiv den = c := by
    rw [Int.tdiv_eq_ediv_of_nonneg h0, hc, Int.mul_ediv_cancel_left _ (by omega)]
  unfold coinF
  rw [e, wrap_id c (by omega) (by omega)]
  exact ⟨hc.symm, hc0, by omega⟩
theorem coinsL_len9 (den : Int) (am : List Am) (m n : Nat) : (coinsL den am m n).length = n := by simp [coinsL]
theorem coinsL_at {den : Int} {am : List Am} {m n r k : Nat} (hr : r < n) (hk : k < m) : ((coinsL den am m n).getD r []).getD k 0 = coinF den am (r * m + k) := by
  unfold coinsL coinsRow
  simp [List.getD, hr, hk]
theorem coinsL_row {den : Int} {am : List Am} {m n : Nat} {x : List Int} (h : x ∈ coinsL den am m n) : x.length = m ∧ ∀ v ∈ x, ∃ r k, r < n ∧ k < m ∧ v = coinF den am (r * m + k) := by
  unfold coinsL at h
  obtain ⟨r, hr, rfl⟩ := List.mem_map.1 h
  rw [List.mem_range] at hr
  refine ⟨by simp [coinsRow], fun v hv => ?_⟩
  unfold coinsRow at hv
  obtain ⟨k, hk, rfl⟩ := List.mem_map.1 hv
  rw [List.mem_range] at hk
  exact ⟨r, k, hr, hk, rfl⟩
theorem rd_L2_0 {l : List (List Int)} (h : 0 < l.length) : rd_L2 l 0 = l.getD 0 [] := by
  have := rd_L2_nat l 0 h
  rw [show ((0 : Nat) : Int) = 0 from rfl] at this
  rw [this]
  simp [List.getD, h]
/-- What is known of amounts that came of a table's book, and are whole. -/
structure Done (den : Int) (l : List (List Int)) (am : List Am) : Prop where
  t : Tab l
  u : Upto 1000000 l
  d1 : 1 ≤ den
  d2 : den ≤ 1000
  inv : Inv den (bookAm l) am
  whole : ∀ j : Nat, j < (bookAm l).length → brk den (amAt am j) = false
def coinsOf (den : Int) (l : List (List Int)) (am : List Am) : List (List Int) := coinsL den am (rd_L2 l 0).length l.length
theorem Done.base {den : Int} {l : List (List Int)} {am : List Am} (h : Done den l am) : Base 36000000 den (bookAm l) := by
  have := book_base h.t h.u (by omega) (by omega) h.d1 h.d2
  exact this
theorem Done.pa {den : Int} {l : List (List Int)} {am : List Am} (h : Done den l am) (j : Nat) (hj : j < (bookAm l).length) : 0 ≤ (amAt am j).pa ∧ (amAt am j).pa ≤ 36001000 := by
  have hb := h.inv.base h.base
  have := hb.p0 j (by rw [h.inv.al.1]; exact hj)
  omega
theorem Done.cell {den : Int} {l : List (List Int)} {am : List Am} (h : Done den l am) {r k : Nat} (hr : r < l.length) (hk : k < (rd_L2 l 0).length) : den * coinF den am (r * (rd_L2 l 0).length + k) = (amAt am ((r * (rd_L2 l 0).length + k : Nat) : Int)).pa ∧ 0 ≤ coinF den am (r * (rd_L2 l 0).length + k) ∧ coinF den am (r * (rd_L2 l 0).length + k) ≤ 1001000 := by
  have hlt : r * (rd_L2 l 0).length + k < (bookAm l).length := by
    rw [h.t.len]
    have : (r + 1) * (rd_L2 l 0).length ≤ l.length * (rd_L2 l 0).length := Nat.mul_le_mul_right _ hr
    rw [Nat.add_mul] at this
    omega
  have hp := h.pa _ hlt
  obtain ⟨h1, h2, h3⟩ := coinF_mul h.d1 hp.1 (by omega) (h.whole _ hlt)
  refine ⟨h1, h2, ?_⟩
  have hn := (h.inv.near _ hlt).rng h.d1 (by
    rw [bookAm_eq ⟨h.t, h.u.small (by omega)⟩, bookX_cell h.t.eq hr hk]
    exact (cell_rng h.u (by omega) r k).1)
  have hc := cell_rng h.u (by omega) r k
  rw [bookAm_eq ⟨h.t, h.u.small (by omega)⟩, bookX_cell h.t.eq hr hk] at hn
  simp only at hn
  have := h.d2
  omega
theorem Done.tab {den : Int} {l : List (List Int)} {am : List Am} (h : Done den l am) : Tab (coinsOf den l am) ∧ Upto 1001000 (coinsOf den l am) ∧ (coinsOf den l am).length = l.length ∧ (rd_L2 (coinsOf den l am) 0).length = (rd_L2 l 0).length := by
  have hn0 := h.t.n0
  have hlen : (coinsOf den l am).length = l.length := coinsL_len9 _ _ _ _
  have hrow : ∀ x ∈ coinsOf den l am, x.length = (rd_L2 l 0).length := fun x hx => (coinsL_row hx).1
  have h0 : (rd_L2 (coinsOf den l am) 0).length = (rd_L2 l 0).length := by
    rw [rd_L2_0 (by omega)]
    rcases getD_mem_or (coinsOf den l am) 0 with h1 | h1
    · exact hrow _ h1
    · have h2 : (coinsOf den l am).getD 0 [] ∈ coinsOf den l am := by
        rw [List.getD_eq_getElem?_getD, List.getElem?_eq_getElem (by omega)]
        exact List.getElem_mem _
      exact hrow _ h2
  refine ⟨⟨by omega, by rw [hlen]; exact h.t.n6, by rw [h0]; exact h.t.m0, by rw [h0]; exact h.t.m6, fun x hx => by rw [h0]; exact hrow x hx⟩, fun x hx v hv => ?_, hlen, h0⟩
  obtain ⟨r, k, hr, hk, rfl⟩ := (coinsL_row hx).2 v hv
  exact (h.cell hr hk).2
/-- The amounts are those of the coins' own book, in parts. -/
theorem Done.book {den : Int} {l : List (List Int)} {am : List Am} (h : Done den l am) (j : Nat) (hj : j < (bookAm l).length) : (amAt am j).pa = den * (amAt (bookAm (coinsOf den l am)) j).pa := by
  obtain ⟨ht, hu, hl, hm⟩ := h.tab
  have e1 := bookAm_eq ⟨h.t, h.u.small (by omega)⟩
  have e2 := bookAm_eq ⟨ht, hu.small (by omega)⟩
  have hn6 := h.t.n6
  have hm6 := h.t.m6
  have hm0 := h.t.m0
  rw [hl, hm] at e2
  have heq : ∀ x ∈ coinsOf den l am, x.length = (rd_L2 l 0).length := fun x hx => (coinsL_row hx).1
  have hconsY : Cons (bookAm (coinsOf den l am)) := (book_base ht hu (by omega) (by omega) h.d1 h.d2).cons
  have hlY : (bookAm (coinsOf den l am)).length = (bookAm l).length := by rw [ht.len, h.t.len, hl, hm]
  have hlen := h.t.len
  have bc : ∀ {r k : Nat}, r < l.length → k < (rd_L2 l 0).length → amAt (bookAm (coinsOf den l am)) ((r * (rd_L2 l 0).length + k : Nat) : Int) = ⟨(r : Int), 6 + (k : Int), ((coinsOf den l am).getD r []).getD k 0⟩ := by
    intro r k hr hk
    rw [e2]
    have := bookX_cell heq (show r < (coinsOf den l am).length by omega) hk
    rw [hl] at this
    exact this
  have bl : ∀ {r : Nat}, r < l.length → amAt (bookAm (coinsOf den l am)) ((l.length * (rd_L2 l 0).length + r : Nat) : Int) = ⟨12, (r : Int), lineS (coinsOf den l am) r⟩ := by
    intro r hr
    rw [e2]
    have := bookX_line heq (show r < (coinsOf den l am).length by omega)
    rw [hl] at this
    exact this
  have bk : ∀ {k : Nat}, k < (rd_L2 l 0).length → amAt (bookAm (coinsOf den l am)) ((l.length * (rd_L2 l 0).length + l.length + k : Nat) : Int) = ⟨6 + (k : Int), 13, colS (coinsOf den l am) k⟩ := by
    intro k hk
    rw [e2]
    have := bookX_col heq hk
    rw [hl] at this
    exact this
  have ba : amAt (bookAm (coinsOf den l am)) ((l.length * (rd_L2 l 0).length + l.length + (rd_L2 l 0).length : Nat) : Int) = ⟨13, 12, allS (coinsOf den l am)⟩ := by
    rw [e2]
    have := bookX_all heq
    rw [hl] at this
    exact this
  have hal : Alike (bookAm (coinsOf den l am)) am := by
    refine ⟨by rw [h.inv.al.1, hlY], fun k hk => ?_⟩
    rw [hlY] at hk
    rw [(h.inv.al.2 k hk).1, (h.inv.al.2 k hk).2]
    have hk' := hk
    rw [hlen] at hk'
    rcases index_cases hk' hm0 with ⟨r, c, hr, hc, rfl⟩ | ⟨r, hr, rfl⟩ | ⟨c, hc, rfl⟩ | rfl
    · rw [bc hr hc, e1, bookX_cell h.t.eq hr hc]; exact ⟨rfl, rfl⟩
    · rw [bl hr, e1, bookX_line h.t.eq hr]; exact ⟨rfl, rfl⟩
    · rw [bk hc, e1, bookX_col h.t.eq hc]; exact ⟨rfl, rfl⟩
    · rw [ba, e1, bookX_all h.t.eq]; exact ⟨rfl, rfl⟩
  have hcell : ∀ {r k : Nat}, r < l.length → k < (rd_L2 l 0).length → (amAt am ((r * (rd_L2 l 0).length + k : Nat) : Int)).pa = den * (amAt (bookAm (coinsOf den l am)) ((r * (rd_L2 l 0).length + k : Nat) : Int)).pa := by
    intro r k hr hk
    rw [bc hr hk]
    show _ = den * ((coinsOf den l am).getD r []).getD k 0
    unfold coinsOf
    rw [coinsL_at hr hk]
    exact (h.cell hr hk).1.symm
  have hline : ∀ {r : Nat}, r < l.length → (amAt am ((l.length * (rd_L2 l 0).length + r : Nat) : Int)).pa = den * (amAt (bookAm (coinsOf den l am)) ((l.length * (rd_L2 l 0).length + r : Nat) : Int)).pa := by
    intro r0 hr0
    refine one_left h.inv.cons hconsY hal (fun q => decide (q = (r0 : Int))) _ (by omega) (fun j hj hne => ?_) ?_
    · have hj' := hj
      rw [hlY, hlen] at hj'
      rcases index_cases hj' hm0 with ⟨r, c, hr, hc, rfl⟩ | ⟨r, hr, rfl⟩ | ⟨c, hc, rfl⟩ | rfl
      · exact .inl (hcell hr hc)
      · right
        rw [bl hr]
        simp only [indS, decide_eq_true_eq]
        rw [if_neg (by omega), if_neg (by omega)]
      · right
        rw [bk hc]
        simp only [indS, decide_eq_true_eq]
        rw [if_neg (by omega), if_neg (by omega)]
      · right
        rw [ba]
        simp only [indS, decide_eq_true_eq]
        rw [if_neg (by omega), if_neg (by omega)]
    · rw [bl hr0]
      simp only [indS, decide_eq_true_eq]
      rw [if_neg (by omega), if_pos trivial]
      decide
  have hcol : ∀ {k : Nat}, k < (rd_L2 l 0).length → (amAt am ((l.length * (rd_L2 l 0).length + l.length + k : Nat) : Int)).pa = den * (amAt (bookAm (coinsOf den l am)) ((l.length * (rd_L2 l 0).length + l.length + k : Nat) : Int)).pa := by
    intro k0 hk0
    refine one_left h.inv.cons hconsY hal (fun q => decide (q = 6 + (k0 : Int))) _ (by omega) (fun j hj hne => ?_) ?_
    · have hj' := hj
      rw [hlY, hlen] at hj'
      rcases index_cases hj' hm0 with ⟨r, c, hr, hc, rfl⟩ | ⟨r, hr, rfl⟩ | ⟨c, hc, rfl⟩ | rfl
      · exact .inl (hcell hr hc)
      · exact .inl (hline hr)
      · right
        rw [bk hc]
        simp only [indS, decide_eq_true_eq]
        rw [if_neg (by omega), if_neg (by omega)]
      · right
        rw [ba]
        simp only [indS, decide_eq_true_eq]
        rw [if_neg (by omega), if_neg (by omega)]
    · rw [bk hk0]
      simp only [indS, decide_eq_true_eq]
      rw [if_pos trivial, if_neg (by omega)]
      decide
  have hjl := hj
  rw [hlen] at hjl
  rcases index_cases hjl hm0 with ⟨r, c, hr, hc, rfl⟩ | ⟨r, hr, rfl⟩ | ⟨c, hc, rfl⟩ | rfl
  · exact hcell hr hc
  · exact hline hr
  · exact hcol hc
  · refine one_left h.inv.cons hconsY hal (fun q => decide (q = 13)) _ (by omega) (fun j hj hne => ?_) ?_
    · have hj' := hj
      rw [hlY, hlen] at hj'
      rcases index_cases hj' hm0 with ⟨r, c, hr, hc, rfl⟩ | ⟨r, hr, rfl⟩ | ⟨c, hc, rfl⟩ | rfl
      · exact .inl (hcell hr hc)
      · exact .inl (hline hr)
      · exact .inl (hcol hc)
      · exact absurd rfl hne
    · rw [ba]
      simp only [indS, decide_eq_true_eq]
      rw [if_pos trivial, if_neg (by omega)]
      decide
end Go.Proofs.Ytcgdbjojjpoegaa.P

/- What the document's functions on tables and roundings are: plain law. -/
namespace Go.Proofs.Ytcgdbjojjpoegaa.P
open Go.RowKit Go.Proofs.YtcgdbjojjpoegaaW.PrintWords Go.Proofs.YtcgdbjojjpoegaaW.PrintLast Go.Proofs.YtcgdbjojjpoegaaW.PrintMore
set_option linter.unusedVariables false
set_option linter.unusedSimpArgs false

theorem wrapS (i : Nat) (h : i ≤ 1000000000) : wrap64 ((i : Int) + 1) = ((i + 1 : Nat) : Int) := by
  rw [wrap_id _ (by omega) (by omega)]
  omega
def badV (v : Int) : Bool := decide (v < 0) || decide (1000000 < v)
theorem badLine_any (x : List Int) : badLine x = x.any badV := by
  unfold badLine
  rw [← withinB_eq, Bool.not_not]
  rfl
theorem rd_getD (x : List Int) (j : Nat) : rd x (j : Int) = x.getD j 0 := by
  rcases Nat.lt_or_ge j x.length with h | h
  · rw [rd_nat x j h]
    simp [List.getD, h]
  · unfold rd
    rw [Int.toNat_natCast]
theorem ct_cells (den : Int) (l : List (List Int)) (hl : l.length ≤ 6) (hr : ∀ x ∈ l, x.length ≤ 6) : ∀ k : Nat,
    (∀ i : Nat, i ≤ l.length → (l.length - i) * 10 + 5 ≤ k → forecourtref09_CheckTable.l1 k (i : Int) den l = some (if (l.drop i).any badLine = true then 3 else 0)) ∧
    (∀ i j : Nat, (hi : i < l.length) → j ≤ l[i].length → (l.length - i) * 10 + 4 ≤ k + j → forecourtref09_CheckTable.l2 k (i : Int) (j : Int) den l = some (if ((l[i].drop j).any badV || (l.drop (i + 1)).any badLine) = true then 3 else 0)) := by
  intro k
  induction k with
  | zero =>
    refine ⟨fun i hi hk => by omega, fun i j hi hj hk => ?_⟩
    have := hr l[i] (List.getElem_mem hi)
    omega
  | succ k ih =>
    refine ⟨fun i hi hk => ?_, fun i j hi hj hk => ?_⟩
    · rw [forecourtref09_CheckTable.l1]
      by_cases hlt : i < l.length
      · have h2 : forecourtref09_CheckTable.l2 k (i : Int) 0 den l = some (if ((l[i].drop 0).any badV || (l.drop (i + 1)).any badLine) = true then 3 else 0) := ih.2 i 0 hlt (Nat.zero_le _) (by omega)
        rw [if_pos (by omega), h2, List.drop_zero, List.drop_eq_getElem_cons hlt, List.any_cons, badLine_any]
      · rw [if_neg (by omega), List.drop_of_length_le (by omega)]
        rfl
    · have h6 := hr l[i] (List.getElem_mem hi)
      rw [forecourtref09_CheckTable.l2, if_pos (by omega), if_pos (by omega), rd_L2_nat l i hi]
      by_cases hlt : j < l[i].length
      · have h2 := ih.2 i (j + 1) hi (by omega) (by omega)
        rw [if_pos (by omega), if_pos (by omega), rd_nat _ j hlt, wrapS j (by omega), h2, List.drop_eq_getElem_cons hlt, List.any_cons]
        unfold badV
        by_cases h3 : l[i][j] < 0
        · rw [if_pos h3]
          simp [h3]
        · rw [if_neg h3]
          by_cases h4 : l[i][j] > 1000000
          · rw [if_pos h4]
            simp [show 1000000 < l[i][j] from h4]
          · rw [if_neg h4]
            simp [h3, show ¬ 1000000 < l[i][j] from h4]
      · have h2 := ih.1 (i + 1) (by omega) (by omega)
        rw [if_neg (by omega), wrapS i (by omega), h2, show l[i].drop j = [] from List.drop_of_length_le (by omega)]
        simp
theorem ct_l0 (den : Int) (l : List (List Int)) (hl0 : 0 < l.length) (hl : l.length ≤ 6) (hm : (rd_L2 l 0).length ≤ 6) : ∀ (k i : Nat), i ≤ l.length → (l.length - i) + 100 ≤ k → (∀ j, (hj : j < i) → (hl' : j < l.length) → l[j].length = (rd_L2 l 0).length) →
    forecourtref09_CheckTable.l0 k (i : Int) den l = some (if (l.drop i).any (oddLine (rd_L2 l 0).length) = true then 15 else if !withinB 1 1000 [den] then 2 else if l.any badLine then 3 else 0)
  | 0, i => fun hi hk _ => by omega
  | k + 1, i => fun hi hk hp => by
    rw [forecourtref09_CheckTable.l0]
    by_cases hlt : i < l.length
    · rw [if_pos (by omega), if_pos (by omega), if_pos (by omega), rd_L2_nat l i hlt, List.drop_eq_getElem_cons hlt, List.any_cons]
      unfold oddLine
      by_cases he : l[i].length = (rd_L2 l 0).length
      · have ih := ct_l0 den l hl0 hl hm k (i + 1) (by omega) (by omega) (fun j hj hl' => by
          by_cases e : j = i
          · subst e; exact he
          · exact hp j (by omega) hl')
        rw [if_pos (by omega), wrapS i (by omega), ih]
        unfold oddLine
        simp [he]
      · rw [if_neg (by omega)]
        have : ((l[i].length : Int) != ((rd_L2 l 0).length : Int)) = true := bne_iff_ne.mpr (by omega)
        rw [this]
        rfl
    · have hall : ∀ x ∈ l, x.length ≤ 6 := by
        intro x hx
        obtain ⟨j, hj, rfl⟩ := List.mem_iff_getElem.1 hx
        rw [hp j (by omega) hj]
        exact hm
      rw [if_neg (by omega), List.drop_of_length_le (by omega)]
      obtain ⟨k, rfl⟩ : ∃ j, k = j + 1 := ⟨k - 1, by omega⟩
      have h1 := (ct_cells den l hl hall k).1 0 (by omega) (by omega)
      rw [List.drop_zero] at h1
      have h2 : withinB 1 1000 [den] = (decide (1 ≤ den) && decide (den ≤ 1000)) := by
        rw [← withinB_eq]
        by_cases a : 1 ≤ den <;> by_cases b : den ≤ 1000 <;> simp [a, b] <;> omega
      by_cases h3 : den < 1
      · rw [if_pos h3, forecourtref09_CheckTable.j2, if_pos rfl, h2, decide_eq_false (show ¬ 1 ≤ den by omega)]
        rfl
      · rw [if_neg h3, forecourtref09_CheckTable.j2, h2, decide_eq_true (show 1 ≤ den by omega)]
        by_cases h4 : den > 1000
        · rw [decide_eq_true h4, if_pos rfl, decide_eq_false (show ¬ den ≤ 1000 by omega)]
          rfl
        · rw [decide_eq_false h4, if_neg (by decide), decide_eq_true (show den ≤ 1000 by omega)]
          exact h1
theorem refCT (den : Int) (l : List (List Int)) (k : Nat) (hk : 200 ≤ k) : forecourtref09_CheckTable.f k den l = some (tableE den l) := by
  obtain ⟨k, rfl⟩ : ∃ j, k = j + 1 := ⟨k - 1, by omega⟩
  unfold forecourtref09_CheckTable.f tableE
  by_cases h1 : (l.length : Int) < 1
  · rw [if_pos h1, forecourtref09_CheckTable.j0, if_pos rfl, if_pos (.inl (by omega))]
  · rw [if_neg h1]
    by_cases h2 : (l.length : Int) > 6
    · rw [if_pos h2, forecourtref09_CheckTable.j0, if_pos rfl, if_pos (.inr (.inl (by omega)))]
    · rw [if_neg h2, if_pos (by omega)]
      by_cases h3 : ((rd_L2 l 0).length : Int) < 1
      · rw [if_pos h3, forecourtref09_CheckTable.j0, if_pos rfl, if_pos (.inr (.inr (.inl (by omega))))]
      · rw [if_neg h3, forecourtref09_CheckTable.j0]
        by_cases h4 : ((rd_L2 l 0).length : Int) > 6
        · rw [decide_eq_true h4, if_pos rfl, if_pos (.inr (.inr (.inr (by omega))))]
        · rw [decide_eq_false h4, if_neg (by decide), if_neg (by omega)]
          have h := ct_l0 den l (by omega) (by omega) (by omega) k 0 (by omega) (by omega) (fun j hj => by omega)
          rw [List.drop_zero] at h
          exact h
def shapedB (l coins : List (List Int)) : Bool := decide (coins.length = l.length) && !coins.any (oddLine (rd_L2 l 0).length)
theorem shaped_l0 (den : Int) (l coins : List (List Int)) (hl : 0 < l.length) (hc : coins.length ≤ 1000) : ∀ (k i : Nat), i ≤ coins.length → (coins.length - i) + 1 ≤ k → forecourtref09_Shaped.l0 k coins (i : Int) den l = some (!(coins.drop i).any (oddLine (rd_L2 l 0).length))
  | 0, i => fun hi hk => by omega
  | k + 1, i => fun hi hk => by
    rw [forecourtref09_Shaped.l0]
    by_cases hlt : i < coins.length
    · rw [if_pos (by omega), if_pos (by omega), if_pos (by omega), rd_L2_nat coins i hlt, List.drop_eq_getElem_cons hlt, List.any_cons]
      by_cases he : coins[i].length = (rd_L2 l 0).length
      · rw [if_pos (by omega), wrapS i (by omega), shaped_l0 den l coins hl hc k (i + 1) (by omega) (by omega)]
        unfold oddLine
        simp [he]
      · have : oddLine (rd_L2 l 0).length coins[i] = true := bne_iff_ne.mpr (by omega)
        rw [if_neg (by omega), this]
        rfl
    · rw [if_neg (by omega), List.drop_of_length_le (by omega)]
      rfl
theorem refShaped (den : Int) (l coins : List (List Int)) (hl : 0 < l.length) (hl6 : l.length ≤ 6) (k : Nat) (hk : 100 ≤ k) : forecourtref09_Shaped.f k den l coins = some (shapedB l coins) := by
  unfold forecourtref09_Shaped.f shapedB
  by_cases h : coins.length = l.length
  · rw [if_pos (by omega), decide_eq_true h]
    have := shaped_l0 den l coins hl (by omega) k 0 (by omega) (by omega)
    rw [List.drop_zero] at this
    rw [Bool.true_and]
    exact this
  · rw [if_neg (by omega), decide_eq_false h]
    rfl
/-- the document's sums, beside the book's -/
structure SR (n m : Nat) (s : Bs) (out : List Int) (all : Int) (ls cs : List Int) : Prop where
  am : s.am.map (·.pa) = out
  of : s.of = ls ++ cs
  nl : ls.length = n
  nc : cs.length = m
  all : s.all = all
theorem SR.step {n m : Nat} {s : Bs} {out : List Int} {all : Int} {ls cs : List Int} (h : SR n m s out all ls cs) {i k : Nat} (hi : i < n) (hk : k < m) (x : Int) :
    SR n m (stepB n i k x s) (out ++ [x]) (wrap64 (all + x)) (ls.set i (wrap64 (ls.getD i 0 + x))) (cs.set k (wrap64 (cs.getD k 0 + x))) := by
  have hnl := h.nl
  have hnc := h.nc
  have g1 : (ls ++ cs).getD i 0 = ls.getD i 0 := by
    rw [List.getD_eq_getElem?_getD, List.getElem?_append_left (by omega), List.getD_eq_getElem?_getD]
  have g2 : ∀ ls' : List Int, ls'.length = n → (ls' ++ cs).getD (n + k) 0 = cs.getD k 0 := by
    intro ls' e
    rw [List.getD_eq_getElem?_getD, List.getElem?_append_right (by omega), e, show n + k - n = k by omega, List.getD_eq_getElem?_getD]
  refine ⟨?_, ?_, by simp [hnl], by simp [hnc], ?_⟩
  · unfold stepB
    simp [h.am]
  · unfold stepB
    simp only
    rw [h.of, g1, List.set_append_left _ _ (by omega), g2 _ (by simp [hnl]), List.set_append_right _ _ (by rw [List.length_set]; omega), List.length_set, hnl, show n + k - n = k by omega]
  · unfold stepB
    simp [h.all]
theorem sums_go (l : List (List Int)) (m : Nat) (hl : l.length ≤ 6) (hm : m ≤ 6) (hr : ∀ x ∈ l, x.length = m) : ∀ k : Nat,
    (∀ (i : Nat) (s : Bs) (out : List Int) (all : Int) (ls cs : List Int), SR l.length m s out all ls cs → i ≤ l.length → out.length = i * m → (l.length - i) * 10 + 5 ≤ k → forecourtref09_Sums.l0 k l out all ls cs (i : Int) = some ((endB l.length m (linesB l.length i (l.drop i) s)).map (·.pa))) ∧
    (∀ (i j : Nat) (s : Bs) (out : List Int) (all : Int) (ls cs : List Int), SR l.length m s out all ls cs → (hi : i < l.length) → j ≤ m → out.length = i * m + j → (l.length - i) * 10 + 4 ≤ k + j → forecourtref09_Sums.l1 k l out all ls cs (i : Int) (j : Int) = some ((endB l.length m (linesB l.length (i + 1) (l.drop (i + 1)) (lineB l.length i j (l[i].drop j) s))).map (·.pa))) := by
  intro k
  induction k with
  | zero => exact ⟨fun i s out all ls cs _ hi _ hk => by omega, fun i j s out all ls cs _ hi hj _ hk => by omega⟩
  | succ k ih =>
    have hbnd : ∀ i, i ≤ l.length → i * m ≤ 36 := fun i hi => Nat.mul_le_mul (Nat.le_trans hi hl) hm
    refine ⟨fun i s out all ls cs h hi ho hk => ?_, fun i j s out all ls cs h hi hj ho hk => ?_⟩
    · have hb := hbnd i hi
      rw [forecourtref09_Sums.l0]
      by_cases hlt : i < l.length
      · have h2 : forecourtref09_Sums.l1 k l out all ls cs (i : Int) 0 = _ := ih.2 i 0 s out all ls cs h hlt (Nat.zero_le _) (by omega) (by omega)
        rw [if_pos (by omega), h2, List.drop_zero, List.drop_eq_getElem_cons hlt, linesB]
      · have hnl := h.nl
        have hnc := h.nc
        rw [if_neg (by omega), if_pos (by omega), Option.bind_some, if_pos (by rw [List.length_append]; omega), Option.bind_some, if_pos (by rw [List.length_append, List.length_append]; omega), List.drop_of_length_le (by omega), linesB]
        unfold endB sumsL sumsC
        rw [List.map_append, List.map_append, List.map_append, h.am, List.map_map, List.map_map, h.of]
        have e1 : (List.range l.length).map ((·.pa) ∘ fun (i : Nat) => (⟨12, (i : Int), (ls ++ cs).getD i 0⟩ : Am)) = ls := by
          apply List.ext_getElem
          · simp [hnl]
          · intro q h1 h2
            simp [List.getD, List.getElem?_append_left h2, h2]
        have e2 : (List.range m).map ((·.pa) ∘ fun (k : Nat) => (⟨6 + (k : Int), 13, (ls ++ cs).getD (l.length + k) 0⟩ : Am)) = cs := by
          apply List.ext_getElem
          · simp [hnc]
          · intro q h1 h2
            simp [List.getD, List.getElem?_append_right (show ls.length ≤ l.length + q by omega), hnl, h2]
        rw [e1, e2]
        simp [h.all]
    · have hxm := hr l[i] (List.getElem_mem hi)
      have hb := hbnd i (by omega)
      rw [forecourtref09_Sums.l1, if_pos (by omega), if_pos (by omega), rd_L2_nat l i hi]
      by_cases hlt : j < l[i].length
      · have hnl := h.nl
        have hnc := h.nc
        have h2 := ih.2 i (j + 1) _ _ _ _ _ (h.step (i := i) (k := j) hi (by omega) l[i][j]) hi (by omega) (by rw [List.length_append]; simp; omega) (by omega)
        rw [if_pos (by omega), if_pos (by omega), if_pos (by omega), if_pos (by omega), if_pos (by omega), rd_nat _ j hlt, rd_getD, rd_getD, Int.toNat_natCast, Int.toNat_natCast, wrapS j (by omega), h2, List.drop_eq_getElem_cons hlt, lineB]
      · have h2 := ih.1 (i + 1) s out all ls cs h (by omega) (by rw [ho, Nat.add_mul]; omega) (by omega)
        rw [if_neg (by omega), wrapS i (by omega), h2, show l[i].drop j = [] from List.drop_of_length_le (by omega), lineB]
theorem refSums {l : List (List Int)} (h : Tab l) (k : Nat) (hk : 200 ≤ k) : forecourtref09_Sums.f k l = some ((bookAm l).map (·.pa)) := by
  have hn6 := h.n6
  have hm6 := h.m6
  have hn0 := h.n0
  unfold forecourtref09_Sums.f
  rw [if_pos (by omega), if_pos (by omega), if_pos (by omega), if_pos (by omega), if_pos (by omega), Int.toNat_natCast, Int.toNat_natCast]
  have := (sums_go l _ hn6 hm6 h.eq k).1 0 ⟨[], List.replicate (l.length + (rd_L2 l 0).length) 0, 0⟩ [] 0 (List.replicate l.length 0) (List.replicate (rd_L2 l 0).length 0) ⟨rfl, by simp, by simp, by simp, rfl⟩ (by omega) (by simp) (by omega)
  rw [List.drop_zero] at this
  exact this
end Go.Proofs.Ytcgdbjojjpoegaa.P

/- Roundings: the program's check is the document's, and what is returned is a rounding: plain law. -/
namespace Go.Proofs.Ytcgdbjojjpoegaa.P
open Go.RowKit Go.Proofs.YtcgdbjojjpoegaaW.PrintWords Go.Proofs.YtcgdbjojjpoegaaW.PrintLast Go.Proofs.YtcgdbjojjpoegaaW.PrintMore
set_option linter.unusedVariables false
set_option linter.unusedSimpArgs false

def badC (v : Int) : Bool := decide (v < 0) || decide (36000000 < v)
/-- the amounts of a book, without their places -/
def pas (l : List (List Int)) : List Int := (bookAm l).map (·.pa)
/-- what the document's CheckRounding answers -/
def refRE (den : Int) (l coins : List (List Int)) : Int :=
  if tableE den l ≠ 0 then tableE den l else if shapedB l coins = false then 15 else if coins.any (fun x => x.any badC) = true then 16 else if nearRow den (pas l) (pas coins) = true then 0 else 16
theorem cr_l2 (den : Int) (l : List (List Int)) (hd : den ≠ 0) (a b : List Int) (hab : b.length = a.length) (ha : a.length ≤ 1000) : ∀ (k j : Nat), j ≤ a.length → (a.length - j) + 1 ≤ k → forecourtref09_CheckRounding.l2 k a b (j : Int) den l = some (if nearRow den (a.drop j) (b.drop j) = true then 0 else 16)
  | 0, j => fun hj hk => by omega
  | k + 1, j => fun hj hk => by
    rw [forecourtref09_CheckRounding.l2]
    by_cases hlt : j < a.length
    · have hlb : j < b.length := by omega
      rw [if_pos (by omega), if_pos (by omega), if_pos (by omega), if_neg hd, rd_nat a j hlt, rd_nat b j hlb, wrapS j (by omega), cr_l2 den l hd a b hab ha k (j + 1) (by omega) (by omega), List.drop_eq_getElem_cons hlt, List.drop_eq_getElem_cons hlb, nearRow]
      unfold nearB
      by_cases h1 : b[j] = wrap64 (a[j].tdiv den)
      · rw [if_pos h1]
        simp [h1]
      · rw [if_neg h1]
        by_cases h2 : b[j] = wrap64 ((wrap64 (wrap64 (a[j] + den) - 1)).tdiv den)
        · rw [if_pos h2]
          simp [h2]
        · rw [if_neg h2]
          simp [h1, h2]
    · rw [if_neg (by omega), List.drop_of_length_le (by omega)]
      rfl
theorem Tab.coins {l coins : List (List Int)} (h : Tab l) (hs : shapedB l coins = true) : Tab coins ∧ coins.length = l.length ∧ (rd_L2 coins 0).length = (rd_L2 l 0).length ∧ ∀ x ∈ coins, x.length = (rd_L2 l 0).length := by
  unfold shapedB at hs
  rw [Bool.and_eq_true] at hs
  have h1 := of_decide_eq_true hs.1
  have h2 : ∀ x ∈ coins, x.length = (rd_L2 l 0).length := by
    intro x hx
    have := hs.2
    rw [Bool.not_eq_true', List.any_eq_false] at this
    have := this x hx
    unfold oddLine at this
    simp at this
    omega
  have hn0 := h.n0
  have h3 : (rd_L2 coins 0).length = (rd_L2 l 0).length := by
    rw [rd_L2_0 (by omega)]
    have h4 : coins.getD 0 [] ∈ coins := by
      rw [List.getD_eq_getElem?_getD, List.getElem?_eq_getElem (by omega)]
      exact List.getElem_mem _
    exact h2 _ h4
  exact ⟨⟨by omega, by rw [h1]; exact h.n6, by rw [h3]; exact h.m0, by rw [h3]; exact h.m6, fun x hx => by rw [h3]; exact h2 x hx⟩, h1, h3, h2⟩
theorem cr_go (den : Int) (l coins : List (List Int)) (hd : den ≠ 0) (ht : Tab l) (hs : shapedB l coins = true) : ∀ k : Nat,
    (∀ i : Nat, i ≤ coins.length → (coins.length - i) * 10 + 505 ≤ k → forecourtref09_CheckRounding.l0 k coins (i : Int) den l = some (if (coins.drop i).any (fun x => x.any badC) = true then 16 else if nearRow den (pas l) (pas coins) = true then 0 else 16)) ∧
    (∀ i j : Nat, (hi : i < coins.length) → j ≤ coins[i].length → (coins.length - i) * 10 + 504 ≤ k + j → forecourtref09_CheckRounding.l1 k coins (i : Int) (j : Int) den l = some (if ((coins[i].drop j).any badC || (coins.drop (i + 1)).any (fun x => x.any badC)) = true then 16 else if nearRow den (pas l) (pas coins) = true then 0 else 16)) := by
  obtain ⟨htc, hcl, hcm, hrow⟩ := ht.coins hs
  have hn6 := ht.n6
  have hm6 := ht.m6
  intro k
  induction k with
  | zero =>
    refine ⟨fun i hi hk => by omega, fun i j hi hj hk => ?_⟩
    have := hrow coins[i] (List.getElem_mem hi)
    omega
  | succ k ih =>
    refine ⟨fun i hi hk => ?_, fun i j hi hj hk => ?_⟩
    · rw [forecourtref09_CheckRounding.l0]
      by_cases hlt : i < coins.length
      · have h2 : forecourtref09_CheckRounding.l1 k coins (i : Int) 0 den l = _ := ih.2 i 0 hlt (Nat.zero_le _) (by omega)
        rw [if_pos (by omega), h2, List.drop_zero, List.drop_eq_getElem_cons hlt, List.any_cons]
      · have e1 : (pas l).length = (bookAm l).length := by simp [pas]
        have e2 : (pas coins).length = (bookAm coins).length := by simp [pas]
        have e3 := ht.le100
        have h2 : forecourtref09_CheckRounding.l2 k (pas l) (pas coins) 0 den l = _ := cr_l2 den l hd (pas l) (pas coins) (by rw [e1, e2, ht.len, htc.len, hcl, hcm]) (by omega) k 0 (by omega) (by omega)
        rw [if_neg (by omega), refSums ht k (by omega), refSums htc k (by omega), Option.bind_some, Option.bind_some, List.drop_of_length_le (by omega)]
        rw [List.drop_zero, List.drop_zero] at h2
        exact h2
    · have h6 := hrow coins[i] (List.getElem_mem hi)
      rw [forecourtref09_CheckRounding.l1, if_pos (by omega), if_pos (by omega), rd_L2_nat coins i hi]
      by_cases hlt : j < coins[i].length
      · have h2 := ih.2 i (j + 1) hi (by omega) (by omega)
        rw [if_pos (by omega), if_pos (by omega), rd_nat _ j hlt, wrapS j (by omega), h2, List.drop_eq_getElem_cons hlt, List.any_cons]
        by_cases h3 : coins[i][j] < 0
        · have : badC coins[i][j] = true := by unfold badC; simp [h3]
          rw [if_pos h3, this]
          rfl
        · rw [if_neg h3]
          by_cases h4 : coins[i][j] > 36000000
          · have : badC coins[i][j] = true := by unfold badC; simp [show 36000000 < coins[i][j] from h4]
            rw [if_pos h4, this]
            rfl
          · have : badC coins[i][j] = false := by unfold badC; simp [h3, show ¬ 36000000 < coins[i][j] from h4]
            rw [if_neg h4, this, Bool.false_or]
      · have h2 := ih.1 (i + 1) (by omega) (by omega)
        rw [if_neg (by omega), wrapS i (by omega), h2, show coins[i].drop j = [] from List.drop_of_length_le (by omega)]
        simp
theorem refCR (den : Int) (l coins : List (List Int)) (k : Nat) (hk : 1000 ≤ k) : forecourtref09_CheckRounding.f k den l coins = some (refRE den l coins) := by
  unfold forecourtref09_CheckRounding.f refRE
  rw [refCT den l k (by omega), Option.bind_some]
  by_cases h : tableE den l = 0
  · have hv := Valid.of h
    rw [if_pos h, if_neg (by simp [h]), refShaped den l coins hv.n0 hv.n6 k (by omega), Option.bind_some]
    cases hs : shapedB l coins with
    | false => simp
    | true =>
      have hc := (hv.tab.coins hs).2.1
      have := (cr_go den l coins (by have := hv.d1; omega) hv.tab hs k).1 0 (by omega) (by have := hv.n6; omega)
      rw [List.drop_zero] at this
      rw [if_pos rfl, if_neg (by decide)]
      exact this
  · rw [if_neg h, if_pos h, Option.bind_some]
theorem tableE_upto {den : Int} {l : List (List Int)} (h : tableE den l = 0) : Upto 1000000 l := by
  unfold tableE at h
  split at h
  · omega
  · split at h
    · omega
    · split at h
      · omega
      · split at h
        · omega
        · rename_i h4
          intro x hx v hv
          have h5 : l.any badLine = false := by simpa using h4
          rw [List.any_eq_false] at h5
          have h6 := h5 x hx
          rw [badLine_any] at h6
          have h7 : x.any badV = false := by simpa using h6
          rw [List.any_eq_false] at h7
          have h8 := h7 v hv
          unfold badV at h8
          simp at h8
          exact h8
theorem near_iff {den part c : Int} (h1 : 1 ≤ den) (h2 : den ≤ 1000) (h3 : 0 ≤ part) (h4 : part ≤ 1000000000) : nearB den part c = true ↔ Near den part (den * c) := by
  have hf := flo_le (a := part) h1
  have e1 : wrap64 (part.tdiv den) = part / den := by
    have h5 : part / den ≤ part := Int.ediv_le_self _ h3
    have h6 : 0 ≤ part / den := Int.ediv_nonneg h3 (by omega)
    rw [Int.tdiv_eq_ediv_of_nonneg h3, wrap_id _ (by omega) (by omega)]
  have e2 : wrap64 ((wrap64 (wrap64 (part + den) - 1)).tdiv den) = (part + den - 1) / den := by
    have h5 : (part + den - 1) / den ≤ part + den - 1 := Int.ediv_le_self _ (by omega)
    have h6 : 0 ≤ (part + den - 1) / den := Int.ediv_nonneg (by omega) (by omega)
    rw [wrap_id (part + den) (by omega) (by omega), wrap_id (part + den - 1) (by omega) (by omega), Int.tdiv_eq_ediv_of_nonneg (by omega), wrap_id _ (by omega) (by omega)]
  have hq : flo den part = den * (part / den) := rfl
  have e3 : (part + den - 1) / den = if den ∣ part then part / den else part / den + 1 := by
    split
    · rename_i hd
      have h5 := flo_dvd hd
      rw [show part + den - 1 = (den - 1) + den * (part / den) by rw [← hq, h5]; omega, Int.add_mul_ediv_left _ _ (by omega), Int.ediv_eq_zero_of_lt (by omega) (by omega)]
      omega
    · rename_i hd
      have h5 : flo den part ≠ part := fun e => hd (by rw [← e]; exact Int.dvd_mul_right _ _)
      rw [show part + den - 1 = (part - flo den part - 1) + den * (part / den + 1) by rw [Int.mul_add, ← hq]; omega, Int.add_mul_ediv_left _ _ (by omega), Int.ediv_eq_zero_of_lt (by omega) (by omega)]
      omega
  unfold nearB
  rw [e1, e2, e3, Bool.or_eq_true, beq_iff_eq, beq_iff_eq]
  unfold Near cei
  rw [hq]
  by_cases hd : den ∣ part
  · rw [if_pos hd, if_pos hd]
    have h5 := flo_dvd hd
    rw [hq] at h5
    constructor
    · rintro (e | e) <;> rw [e] <;> omega
    · rintro ⟨a, b⟩
      left
      have : den * c = den * (part / den) := by omega
      exact Int.eq_of_mul_eq_mul_left (by omega) this
  · rw [if_neg hd, if_neg hd]
    constructor
    · rintro (e | e)
      · rw [e]; omega
      · rw [e, Int.mul_add]; omega
    · rintro ⟨a, b⟩
      have a' := Int.le_of_mul_le_mul_left a (by omega)
      have b' : c ≤ part / den + 1 := Int.le_of_mul_le_mul_left (a := den) (by rw [Int.mul_add, Int.mul_one]; exact b) (by omega)
      omega
theorem nearRow_get {den : Int} : ∀ (a b : List Int), b.length = a.length → (nearRow den a b = true ↔ ∀ j (h : j < a.length) (h' : j < b.length), nearB den a[j] b[j] = true)
  | [], [], _ => by simp [nearRow]
  | [], _ :: _, h => by simp at h
  | _ :: _, [], h => by simp at h
  | x :: a, y :: b, h => by
    rw [nearRow, Bool.and_eq_true, nearRow_get a b (by simpa using h)]
    constructor
    · rintro ⟨h1, h2⟩ j hj hj'
      cases j with
      | zero => exact h1
      | succ j => exact h2 j (by simpa using hj) (by simpa using hj')
    · intro h1
      refine ⟨h1 0 (by simp) (by simp), fun j hj hj' => ?_⟩
      have := h1 (j + 1) (by simpa using hj) (by simpa using hj')
      simpa using this
theorem nearRow_append {den : Int} : ∀ (a b c d : List Int), b.length = a.length → nearRow den (a ++ c) (b ++ d) = (nearRow den a b && nearRow den c d)
  | [], [], c, d, _ => by simp [nearRow]
  | [], _ :: _, _, _, h => by simp at h
  | _ :: _, [], _, _, h => by simp at h
  | x :: a, y :: b, c, d, h => by
    rw [List.cons_append, List.cons_append, nearRow, nearRow, nearRow_append a b c d (by simpa using h), Bool.and_assoc]
theorem rowA_pas (i : Nat) : ∀ (x : List Int) (k : Nat), (rowA i k x).map (·.pa) = x
  | [], k => rfl
  | v :: x, k => by rw [rowA, List.map_cons, rowA_pas i x (k + 1)]
theorem rows_near {den : Int} {m : Nat} : ∀ (l c : List (List Int)) (i : Nat), c.length = l.length → (∀ x ∈ l, x.length = m) → (∀ x ∈ c, x.length = m) → nearRow den ((rowsA i l).map (·.pa)) ((rowsA i c).map (·.pa)) = nearRows den l c
  | [], [], i, _, _, _ => by simp [rowsA, nearRow, nearRows]
  | [], _ :: _, i, h, _, _ => by simp at h
  | _ :: _, [], i, h, _, _ => by simp at h
  | x :: l, y :: c, i, h, h1, h2 => by
    rw [rowsA, rowsA, List.map_append, List.map_append, rowA_pas, rowA_pas, nearRow_append _ _ _ _ (by rw [h1 x (by simp), h2 y (by simp)]), rows_near l c (i + 1) (by simpa using h) (fun z hz => h1 z (by simp [hz])) (fun z hz => h2 z (by simp [hz])), nearRows]
theorem nearRows_get {den : Int} {m : Nat} : ∀ (l c : List (List Int)), c.length = l.length → (∀ x ∈ l, x.length = m) → (∀ x ∈ c, x.length = m) → nearRows den l c = true → ∀ y ∈ c, ∀ v ∈ y, ∃ x ∈ l, ∃ p ∈ x, nearB den p v = true
  | [], [], _, _, _, _ => by simp
  | [], _ :: _, h, _, _, _ => by simp at h
  | _ :: _, [], h, _, _, _ => by simp at h
  | x :: l, z :: c, h, h1, h2, hn => by
    rw [nearRows, Bool.and_eq_true] at hn
    intro y hy v hv
    rw [List.mem_cons] at hy
    rcases hy with rfl | hy
    · obtain ⟨j, hj, rfl⟩ := List.mem_iff_getElem.1 hv
      have hx := h1 x (by simp)
      have hz := h2 y (by simp)
      have := (nearRow_get x y (by omega)).1 hn.1 j (by omega) hj
      exact ⟨x, by simp, _, List.getElem_mem _, this⟩
    · obtain ⟨x', hx', p, hp, e⟩ := nearRows_get l c (by simpa using h) (fun z hz => h1 z (by simp [hz])) (fun z hz => h2 z (by simp [hz])) hn.2 y hy v hv
      exact ⟨x', by simp [hx'], p, hp, e⟩
/-- The program's check is the document's. -/
theorem rounding_same (den : Int) (l coins : List (List Int)) : roundingE den l coins = refRE den l coins := by
  unfold roundingE refRE
  by_cases h : tableE den l = 0
  · have hv := Valid.of h
    have hu := tableE_upto h
    rw [if_neg (show ¬ (tableE den l ≠ 0) by simp [h]), if_neg (show ¬ (tableE den l ≠ 0) by simp [h])]
    cases hs : shapedB l coins with
    | false =>
      rw [if_pos rfl, if_pos]
      unfold shapedB at hs
      rw [Bool.and_eq_false_iff] at hs
      rcases hs with hs | hs
      · exact .inl (of_decide_eq_false hs)
      · exact .inr (by simpa using hs)
    | true =>
      obtain ⟨htc, hcl, hcm, hrow⟩ := hv.tab.coins hs
      have hno : ¬ (coins.length ≠ l.length ∨ coins.any (oddLine (rd_L2 l 0).length) = true) := by
        rintro (h1 | h1)
        · exact h1 hcl
        · unfold shapedB at hs
          rw [h1] at hs
          simp at hs
      rw [if_neg hno, if_neg (show ¬ (true = false) by decide)]
      have hcells : nearRows den l coins = true → coins.any (fun x => x.any badC) = false := by
        intro hn
        rw [List.any_eq_false]
        intro y hy
        rw [Bool.not_eq_true, List.any_eq_false]
        intro v hv'
        obtain ⟨x, hx, p, hp, e⟩ := nearRows_get l coins hcl hv.eq hrow hn y hy v hv'
        have hpr := hu x hx p hp
        have h1 := (near_iff hv.d1 hv.d2 hpr.1 (by omega)).1 e
        have h2 := h1.rng hv.d1 hpr.1
        have hd1 := hv.d1
        have hd2 := hv.d2
        have h3 : 0 ≤ v := by
          rcases Int.lt_or_le v 0 with h4 | h4
          · have := Int.mul_neg_of_pos_of_neg (show 0 < den by omega) h4
            omega
          · exact h4
        have h4 : v ≤ den * v := by
          have := Int.mul_le_mul_of_nonneg_right hd1 h3
          omega
        unfold badC
        simp
        omega
      by_cases hb : coins.any (fun x => x.any badC) = true
      · rw [if_pos hb]
        cases hn : nearRows den l coins with
        | false => rw [if_pos rfl]
        | true =>
          rw [hcells hn] at hb
          cases hb
      · have hsm : ∀ x ∈ coins, Small x := by
          intro x hx v hv'
          have h1 : coins.any (fun x => x.any badC) = false := by simpa using hb
          rw [List.any_eq_false] at h1
          have h2 := h1 x hx
          rw [Bool.not_eq_true, List.any_eq_false] at h2
          have h3 := h2 v hv'
          unfold badC at h3
          simp at h3
          omega
        have e1 := bookAm_eq ⟨hv.tab, hu.small (by omega)⟩
        have e2 := bookAm_eq ⟨htc, hsm⟩
        rw [if_neg hb]
        have key : nearRow den (pas l) (pas coins) = true → nearRows den l coins = true := by
          intro hn
          unfold pas at hn
          rw [e1, e2] at hn
          unfold bookX at hn
          rw [List.append_assoc, List.append_assoc, List.append_assoc, List.append_assoc, List.map_append, List.map_append (l₁ := rowsA 0 coins), nearRow_append _ _ _ _ (by rw [List.length_map, List.length_map, rowsA_len _ _ _ htc.eq, rowsA_len _ _ _ hv.eq, hcl, hcm]), Bool.and_eq_true] at hn
          rw [← rows_near l coins 0 hcl hv.eq hrow]
          exact hn.1
        show (if nearRows den l coins = false then 16 else if nearRow den (pas l) (pas coins) = false then 16 else 0) = _
        cases hn : nearRow den (pas l) (pas coins) with
        | true => rw [key hn]; rfl
        | false =>
          cases nearRows den l coins <;> rfl
  · rw [if_pos h, if_pos h]
/-- A table's settled amounts make a rounding. -/
theorem Done.round {den : Int} {l : List (List Int)} {am : List Am} (h : Done den l am) (ht : tableE den l = 0) : refRE den l (coinsOf den l am) = 0 := by
  obtain ⟨htc, huc, hcl, hcm⟩ := h.tab
  have hrow : ∀ x ∈ coinsOf den l am, x.length = (rd_L2 l 0).length := fun x hx => (coinsL_row hx).1
  unfold refRE
  have hs : shapedB l (coinsOf den l am) = true := by
    unfold shapedB
    rw [hcl, decide_eq_true rfl, Bool.true_and, Bool.not_eq_true', List.any_eq_false]
    intro x hx
    unfold oddLine
    simp [hrow x hx]
  have hb : (coinsOf den l am).any (fun x => x.any badC) = false := by
    rw [List.any_eq_false]
    intro x hx
    rw [Bool.not_eq_true, List.any_eq_false]
    intro v hv
    have := huc x hx v hv
    unfold badC
    simp
    omega
  have hn : nearRow den (pas l) (pas (coinsOf den l am)) = true := by
    have hlen : (bookAm (coinsOf den l am)).length = (bookAm l).length := by rw [htc.len, h.t.len, hcl, hcm]
    unfold pas
    rw [nearRow_get _ _ (by rw [List.length_map, List.length_map, hlen])]
    intro j hj hj'
    rw [List.length_map] at hj hj'
    rw [List.getElem_map, List.getElem_map, ← amAt_nat _ j hj, ← amAt_nat _ j hj']
    have hp := h.base.p0 j hj
    rw [near_iff h.d1 h.d2 hp.1 (by omega), ← h.book j hj]
    exact h.inv.near j hj
  rw [if_neg (by simp [ht]), hs, if_neg (by decide), hb, if_neg (by decide), if_pos hn]
theorem settle_done {den : Int} {l : List (List Int)} (ht : tableE den l = 0) : ∃ am, settleR den 100 (bookAm l) = some am ∧ Done den l am := by
  have hv := Valid.of ht
  have hu := tableE_upto ht
  have hB := book_base hv.tab hu (by omega) (by omega) hv.d1 hv.d2
  obtain ⟨am, h1, h2, h3⟩ := settle_ok hB (by omega) 100 hv.tab.le100
  exact ⟨am, h1, hv.tab, hu, hv.d1, hv.d2, h2, h3⟩
end Go.Proofs.Ytcgdbjojjpoegaa.P

/- Force: the cell is rounded as it is asked: plain law. -/
namespace Go.Proofs.Ytcgdbjojjpoegaa.P
open Go.RowKit Go.Proofs.YtcgdbjojjpoegaaW.PrintWords Go.Proofs.YtcgdbjojjpoegaaW.PrintLast Go.Proofs.YtcgdbjojjpoegaaW.PrintMore
set_option linter.unusedVariables false
set_option linter.unusedSimpArgs false

end Go.Proofs.Ytcgdbjojjpoegaa.P

namespace Go.Proofs.Ytcgdbjojjpoegaa.P
open Go.RowKit Go.Proofs.YtcgdbjojjpoegaaW.PrintWords Go.Proofs.YtcgdbjojjpoegaaW.PrintLast Go.Proofs.YtcgdbjojjpoegaaW.PrintMore
attribute [local go_sem] max2_int min2_int max_two min_two max_three min_three max_four min_four   -- for this text's walks alone
set_option linter.unusedVariables false
set_option linter.unusedSimpArgs false

/-! ### forecourtlaw09_long: function 27 -/
def forecourtlaw09_long.l0 : Nat → List (List Int) → Int → Option (Bool)
  | 0, _, _ => none
  | k + 1, x0, x3 => if x3 < (x0.length : Int) then (if 0 ≤ x3 then (if ((rd_L2 x0 x3).length : Int) > 10 then (some true) else (forecourtlaw09_long.l0 k x0 (wrap64 (x3 + 1)))) else (none)) else (some false)
def forecourtlaw09_long.f (k : Nat) (l0 : List (List Int)) : Option (Bool) := if (l0.length : Int) > 10 then (some true) else (forecourtlaw09_long.l0 k l0 0)
set_option maxHeartbeats 8000000 in
set_option maxRecDepth 100000 in
theorem forecourtlaw09_long.calls (k : Nat) (A0 : Option Addr) (c0 : Nat) (l0 : List (List Int)) (r : Bool) (w : World) (hr0 : Kd.C (Kd.slice 2 (Kd.int .i64)) w A0 l0.length l0) (hc0 : l0.length ≤ c0) (h : forecourtlaw09_long.f k l0 = some r) :
    Calls Try.prog 27 #[.slice A0 l0.length c0] w fun e w' => e = .returned (.bool r) ∧ Drawn0 w w' := by
  have HR0 := Aside0.mk hr0
  have HC0 := Aside0.mk hc0
  clear hr0 hc0
  have H : (if (l0.length : Int) > 10 then (some true) else (forecourtlaw09_long.l0 k l0 0)) = some r := h
  clear h
  by_cases c2 : (l0.length : Int) > 10
  · rw [if_pos c2] at H
    have c2b0 : decide (10 < (l0.length : Int)) = true := decide_eq_true c2
    have c2b1 : decide (10 < l0.length) = true := decide_eq_true (by omega)
    clear c2
    obtain rfl := Option.some.inj H
    go_enter Try.func27, Try.ntmps27
    go_wp2
    go_ret
    exact ⟨b5_, b8_⟩
  rw [if_neg c2] at H
  have c2b0 : decide (10 < (l0.length : Int)) = false := decide_eq_false c2
  have c2b1 : decide (10 < l0.length) = false := decide_eq_false (by omega)
  clear c2
  have H' := Aside0.mk H
  clear H
  go_enter Try.func27, Try.ntmps27
  go_wp2
  go_loopg [3] k (fun kq v3 w' => ∃ (x3_1 : Int), v3 = .int .i64 x3_1 ∧ Aside0 (forecourtlaw09_long.l0 kq l0 x3_1 = some r) ∧ Aside0 (kq ≤ k) ∧ Drawn0 w w')
  case atStart => exact ⟨(0), b5_, H', ⟨Nat.le_refl _⟩, b8_⟩
  clear H'
  try clear c2
  try clear c2b0
  try clear c2b1
  try clear p2
  obtain ⟨x3_1, rfl, HA, HK1, ⟨m1, rfl⟩⟩ := hrel
  cases gk with
  | zero => exact absurd HA.out (by simp [forecourtlaw09_long.l0])
  | succ k1 => ?_
  have H := HA.out
  clear HA
  simp only [forecourtlaw09_long.l0] at H
  by_cases c3 : x3_1 < (l0.length : Int)
  rotate_left
  · rw [if_neg c3] at H
    have c3b0 : decide (x3_1 < (l0.length : Int)) = false := decide_eq_false c3
    clear c3
    obtain rfl := Option.some.inj H
    go_wp2
    go_ret
    exact ⟨b5_, b8_⟩
  rw [if_pos c3] at H
  have c3b0 : decide (x3_1 < (l0.length : Int)) = true := decide_eq_true c3
  clear c3
  by_cases c4 : 0 ≤ x3_1
  rotate_left
  · rw [if_neg c4] at H
    exact absurd H (by simp)
  rw [if_pos c4] at H
  have c4b0 : decide (0 ≤ x3_1) = true := decide_eq_true c4
  clear c4
  by_cases c5 : ((rd_L2 l0 x3_1).length : Int) > 10
  · rw [if_pos c5] at H
    have c5b0 : decide (10 < ((rd_L2 l0 x3_1).length : Int)) = true := decide_eq_true c5
    have c5b1 : decide (10 < (rd_L2 l0 x3_1).length) = true := decide_eq_true (by omega)
    clear c5
    obtain rfl := Option.some.inj H
    have p472 : 0 ≤ (x3_1 : Int) := of_decide_eq_true b2_
    have q472 : x3_1 < (l0.length : Int) := of_decide_eq_true b2_
    obtain ⟨ad472, A472_0, c472_0, e472, hx472_0, hl472_0, hi472_0⟩ := at_L2 HR0.out x3_1 p472 q472
    cases e472
    have HR472_0 := Aside0.mk hi472_0
    have HC472_0 := Aside0.mk hl472_0
    clear hi472_0 hl472_0
    replace p472 := eq_true p472
    replace q472 := eq_true q472
    go_wp2
    go_ret
    exact ⟨b5_, b8_⟩
  rw [if_neg c5] at H
  have c5b0 : decide (10 < ((rd_L2 l0 x3_1).length : Int)) = false := decide_eq_false c5
  have c5b1 : decide (10 < (rd_L2 l0 x3_1).length) = false := decide_eq_false (by omega)
  clear c5
  have H' := Aside0.mk H
  clear H
  have p472 : 0 ≤ (x3_1 : Int) := of_decide_eq_true b2_
  have q472 : x3_1 < (l0.length : Int) := of_decide_eq_true b2_
  obtain ⟨ad472, A472_0, c472_0, e472, hx472_0, hl472_0, hi472_0⟩ := at_L2 HR0.out x3_1 p472 q472
  cases e472
  have HR472_0 := Aside0.mk hi472_0
  have HC472_0 := Aside0.mk hl472_0
  clear hi472_0 hl472_0
  replace p472 := eq_true p472
  replace q472 := eq_true q472
  go_wp2
  go_roundg k1
  case measure => have := HK1.out; omega
  case rel => exact ⟨(wrap64 (x3_1 + 1)), b5_, H', ⟨(by have := HK1.out; omega)⟩, b8_⟩

end Go.Proofs.Ytcgdbjojjpoegaa.P

namespace Go.Proofs.Ytcgdbjojjpoegaa.P
open Go.RowKit Go.Proofs.YtcgdbjojjpoegaaW.PrintWords Go.Proofs.YtcgdbjojjpoegaaW.PrintLast Go.Proofs.YtcgdbjojjpoegaaW.PrintMore
attribute [local go_sem] max2_int min2_int max_two min_two max_three min_three max_four min_four   -- for this text's walks alone
set_option linter.unusedVariables false
set_option linter.unusedSimpArgs false

/-! ### forecourtlaw09_table: function 40 -/
def forecourtlaw09_table.f (k : Nat) (a0_0 : Int) (l0_1 : List (List Int)) : Option (Bool) := (forecourtlaw09_long.f k l0_1).bind fun t547 => (if t547 = true then (some false) else ((forecourtref09_CheckTable.f k a0_0 l0_1).bind fun t548 => (some (t548 == 0))))
set_option maxHeartbeats 8000000 in
set_option maxRecDepth 100000 in
theorem forecourtlaw09_table.calls (k : Nat) (a0_0 : Int) (A0_1 : Option Addr) (c0_1 : Nat) (l0_1 : List (List Int)) (r : Bool) (w : World) (hr0_1 : Kd.C (Kd.slice 2 (Kd.int .i64)) w A0_1 l0_1.length l0_1) (hc0_1 : l0_1.length ≤ c0_1) (h : forecourtlaw09_table.f k a0_0 l0_1 = some r) :
    Calls Try.prog 40 #[.agg #[.int .i64 a0_0, .slice A0_1 l0_1.length c0_1]] w fun e w' => e = .returned (.bool r) ∧ Below w.heap.size w w' := by
  have hu39 := Try.underlying39
  have HR0_1 := Aside0.mk hr0_1
  have HC0_1 := Aside0.mk hc0_1
  clear hr0_1 hc0_1
  have HB := Aside0.mk (Below.refl w.heap.size w)
  have H : ((forecourtlaw09_long.f k l0_1).bind fun t547 => (if t547 = true then (some false) else ((forecourtref09_CheckTable.f k a0_0 l0_1).bind fun t548 => (some (t548 == 0))))) = some r := h
  clear h
  replace H := Option.bind_eq_some_iff.mp H
  obtain ⟨t547, A20, H⟩ := H
  replace H : (if t547 = true then (some false) else ((forecourtref09_CheckTable.f k a0_0 l0_1).bind fun t548 => (some (t548 == 0)))) = some r := H
  have A2 := Aside0.mk A20
  clear A20
  by_cases c3 : t547 = true
  · subst c3
    have H1 : (some false) = some r := by rw [if_pos rfl] at H; exact H
    clear H
    have H := H1
    clear H1
    obtain rfl := Option.some.inj H
    go_enter Try.func40, Try.ntmps40
    go_wp2_with (first | ((with_reducible refine gate_dst (N := 1) rfl ?_); refine bx_ (cs := #[.int .i64 a0_0, .slice A0_1 l0_1.length c0_1]) (t := 39) (fun gb546 w4 BK546 GE546 HB => ?_); obtain ⟨hcz5_0, hcz5_1, hfz5_0, hfz5_1⟩ := cz2_ BK546.out) | ((with_reducible refine gate_callee (f := 27) rfl ?_); refine goesL_ (some 5) rfl rfl Try.func27 (by kernel_rfl) rfl #[.slice A0_1 l0_1.length c0_1] rfl b3_ ?_; (with_reducible refine (forecourtlaw09_long.calls k _ _ l0_1 true _ ?side1 ?side2 A2.out).mono ?_); (case side1 => repeat (first | exact (Kd.C_below HR0_1.out HB.out) | (with_reducible refine Kd.C_alloc ?_ _) | (with_reducible refine Kd.C_drewN ?_ _) | (with_reducible refine Kd.C_drew ?_))); (case side2 => exact HC0_1.out); rintro e w' ⟨rfl, ⟨nd, rfl⟩⟩; refine ⟨_, rfl, ?_⟩))
    go_ret
    exact ⟨b4_, b1_⟩
  replace c3 := Bool.eq_false_iff.mpr c3
  subst c3
  have H1 : ((forecourtref09_CheckTable.f k a0_0 l0_1).bind fun t548 => (some (t548 == 0))) = some r := by rw [if_neg (show ¬ (false = true) by decide)] at H; exact H
  clear H
  have H := H1
  clear H1
  replace H := Option.bind_eq_some_iff.mp H
  obtain ⟨t548, A60, H⟩ := H
  replace H : (some (t548 == 0)) = some r := H
  have A6 := Aside0.mk A60
  clear A60
  obtain rfl := Option.some.inj H
  go_enter Try.func40, Try.ntmps40
  go_wp2_with (first | ((with_reducible refine gate_dst (N := 1) rfl ?_); refine bx_ (cs := #[.int .i64 a0_0, .slice A0_1 l0_1.length c0_1]) (t := 39) (fun gb546 w7 BK546 GE546 HB => ?_); obtain ⟨hcz8_0, hcz8_1, hfz8_0, hfz8_1⟩ := cz2_ BK546.out) | ((with_reducible refine gate_callee (f := 27) rfl ?_); refine goesL_ (some 5) rfl rfl Try.func27 (by kernel_rfl) rfl #[.slice A0_1 l0_1.length c0_1] rfl b3_ ?_; (with_reducible refine (forecourtlaw09_long.calls k _ _ l0_1 false _ ?side1 ?side2 A2.out).mono ?_); (case side1 => repeat (first | exact (Kd.C_below HR0_1.out HB.out) | (with_reducible refine Kd.C_alloc ?_ _) | (with_reducible refine Kd.C_drewN ?_ _) | (with_reducible refine Kd.C_drew ?_))); (case side2 => exact HC0_1.out); rintro e w' ⟨rfl, ⟨nd, rfl⟩⟩; refine ⟨_, rfl, ?_⟩) | (go_at_call 29; (with_reducible refine (forecourtref09_CheckTable.calls k a0_0 _ _ l0_1 t548 _ ?side1 ?side2 A6.out).mono ?_); (case side1 => repeat (first | exact (Kd.C_below HR0_1.out b1_) | (with_reducible refine Kd.C_alloc ?_ _) | (with_reducible refine Kd.C_drewN ?_ _) | (with_reducible refine Kd.C_drew ?_))); (case side2 => exact HC0_1.out); rintro e w9 ⟨rfl, hb⟩; replace BK546 := bk_ BK546 hb; replace HB := hB_ HB hb; (try clear hb)))
  go_ret
  exact ⟨b4_, b1_⟩

end Go.Proofs.Ytcgdbjojjpoegaa.P

/- What a table's law asks first; a cell of lines in memory. -/
namespace Go.Proofs.Ytcgdbjojjpoegaa.P
open Go.RowKit Go.Proofs.YtcgdbjojjpoegaaW.PrintWords Go.Proofs.YtcgdbjojjpoegaaW.PrintLast Go.Proofs.YtcgdbjojjpoegaaW.PrintMore
set_option linter.unusedVariables false
set_option linter.unusedSimpArgs false

theorem longT_l0 (l : List (List Int)) (hl : l.length ≤ 10) : ∀ (k i : Nat), i ≤ l.length → (l.length - i) + 1 ≤ k → ∃ b, forecourtlaw09_long.l0 k l (i : Int) = some b
  | 0, i => fun hi hk => by omega
  | k + 1, i => fun hi hk => by
    rw [forecourtlaw09_long.l0]
    by_cases hlt : i < l.length
    · rw [if_pos (by omega), if_pos (by omega)]
      split
      · exact ⟨_, rfl⟩
      · rw [wrapS i (by omega)]
        exact longT_l0 l hl k (i + 1) (by omega) (by omega)
    · rw [if_neg (by omega)]
      exact ⟨_, rfl⟩
theorem longT (l : List (List Int)) (k : Nat) (hk : 20 ≤ k) : ∃ b, forecourtlaw09_long.f k l = some b := by
  unfold forecourtlaw09_long.f
  split
  · exact ⟨_, rfl⟩
  · exact longT_l0 l (by omega) k 0 (by omega) (by omega)
/-- what a law takes as a table -/
theorem table_eq (den : Int) (l : List (List Int)) : ∃ b, forecourtlaw09_table.f 1000 den l = some b ∧ (b = true → tableE den l = 0) := by
  obtain ⟨b, h⟩ := longT l 1000 (by omega)
  unfold forecourtlaw09_table.f
  rw [h, Option.bind_some]
  by_cases hb : b = true
  · rw [if_pos hb]
    exact ⟨false, rfl, fun h => by cases h⟩
  · rw [if_neg hb, refCT den l 1000 (by omega), Option.bind_some]
    exact ⟨_, rfl, fun h => by simpa using h⟩
/-- a cell of lines that lie in memory -/
theorem grid_at {w : World} {A : Option Addr} {l : List (List Int)} (h : Kd.C (Kd.slice 2 (Kd.int .i64)) w A l.length l) {i k : Nat} (hi : i < l.length) (hk : k < (l.getD i []).length) :
    ∃ ad ad2 c2, A = some ad ∧ w.cell? (ad.add i) = some (.slice (some ad2) (l.getD i []).length c2) ∧ w.cell? (ad2.add k) = some (.int .i64 ((l.getD i []).getD k 0)) := by
  obtain ⟨ad, A2, c2, e0, hc, _, hC⟩ := at_L2 h (i : Int) (by omega) (by omega)
  have e : rd_L2 l (i : Int) = l.getD i [] := by
    rw [rd_L2_nat l i hi]
    simp [List.getD, hi]
  rw [Int.toNat_natCast] at hc
  rw [e] at hc hC
  obtain ⟨ad2, e2, hc2⟩ := Kd.at_int hC (k : Int) (by omega) (by omega)
  subst e2
  rw [Int.toNat_natCast, rd_getD] at hc2
  exact ⟨ad, ad2, c2, e0, hc, hc2⟩
end Go.Proofs.Ytcgdbjojjpoegaa.P

/- Roundings of a table that is turned, and of one with whole coins added: plain law. -/
namespace Go.Proofs.Ytcgdbjojjpoegaa.P
open Go.RowKit Go.Proofs.YtcgdbjojjpoegaaW.PrintWords Go.Proofs.YtcgdbjojjpoegaaW.PrintLast Go.Proofs.YtcgdbjojjpoegaaW.PrintMore
set_option linter.unusedVariables false
set_option linter.unusedSimpArgs false

structure NearT (den : Int) (l x : List (List Int)) (n m : Nat) : Prop where
  cell : ∀ r k, r < n → k < m → Near den ((l.getD r []).getD k 0) (den * (x.getD r []).getD k 0)
  line : ∀ r, r < n → Near den (lineS l r) (den * lineS x r)
  col : ∀ k, k < m → Near den (colS l k) (den * colS x k)
  all : Near den (allS l) (den * allS x)
def GoodC (x : List (List Int)) : Prop := ∀ y ∈ x, ∀ v ∈ y, 0 ≤ v ∧ v ≤ 36000000
theorem any_badC (x : List (List Int)) : x.any (fun y => y.any badC) = false ↔ GoodC x := by
  rw [List.any_eq_false]
  constructor
  · intro h y hy v hv
    have h1 := h y hy
    rw [Bool.not_eq_true, List.any_eq_false] at h1
    have h2 := h1 v hv
    unfold badC at h2
    simp at h2
    omega
  · intro h y hy
    rw [Bool.not_eq_true, List.any_eq_false]
    intro v hv
    have := h y hy v hv
    unfold badC
    simp
    omega
theorem nearRow_am {den : Int} {l x : List (List Int)} (ht : tableE den l = 0) (hlen : (bookAm x).length = (bookAm l).length) :
    nearRow den (pas l) (pas x) = true ↔ ∀ j : Nat, j < (bookAm l).length → Near den (amAt (bookAm l) (j : Int)).pa (den * (amAt (bookAm x) (j : Int)).pa) := by
  have hv := Valid.of ht
  have hB := book_base hv.tab (tableE_upto ht) (by omega) (by omega) hv.d1 hv.d2
  unfold pas
  rw [nearRow_get _ _ (by rw [List.length_map, List.length_map, hlen])]
  constructor
  · intro h j hj
    have h1 := h j (by rw [List.length_map]; exact hj) (by rw [List.length_map]; omega)
    rw [List.getElem_map, List.getElem_map, ← amAt_nat _ j hj, ← amAt_nat _ j (by omega)] at h1
    have hp := hB.p0 j hj
    exact (near_iff hv.d1 hv.d2 hp.1 (by omega)).1 h1
  · intro h j hj hj'
    rw [List.length_map] at hj hj'
    rw [List.getElem_map, List.getElem_map, ← amAt_nat _ j hj, ← amAt_nat _ j hj']
    have hp := hB.p0 j hj
    exact (near_iff hv.d1 hv.d2 hp.1 (by omega)).2 (h j hj)
theorem refRE_sh {den : Int} {l x : List (List Int)} (ht : tableE den l = 0) (hs : shapedB l x = true) :
    (refRE den l x = 0 ↔ GoodC x ∧ NearT den l x l.length (rd_L2 l 0).length) ∧ (refRE den l x = 0 ∨ refRE den l x = 16) := by
  have hv := Valid.of ht
  have hu := tableE_upto ht
  obtain ⟨htc, hcl, hcm, hrow⟩ := hv.tab.coins hs
  unfold refRE
  rw [if_neg (show ¬ (tableE den l ≠ 0) by simp [ht]), hs, if_neg (by decide)]
  have hm0 := hv.m0
  by_cases hb : x.any (fun x => x.any badC) = true
  · rw [if_pos hb]
    refine ⟨⟨fun h => by omega, fun h => ?_⟩, .inr rfl⟩
    rw [(any_badC x).2 h.1] at hb
    cases hb
  · have hg : GoodC x := (any_badC x).1 (by simpa using hb)
    have hlen : (bookAm x).length = (bookAm l).length := by rw [htc.len, hv.tab.len, hcl, hcm]
    rw [if_neg hb]
    have key : nearRow den (pas l) (pas x) = true ↔ NearT den l x l.length (rd_L2 l 0).length := by
      rw [nearRow_am ht hlen]
      have e1 := bookAm_eq ⟨hv.tab, hu.small (by omega)⟩
      have e2 := bookAm_eq ⟨htc, fun y hy v hv' => by have := hg y hy v hv'; omega⟩
      have hl1 : (bookAm l).length = l.length * (rd_L2 l 0).length + l.length + (rd_L2 l 0).length + 1 := by rw [e1]; exact bookX_len hv.eq
      rw [hl1, e1, e2, hcm]
      have hxe : ∀ y ∈ x, y.length = (rd_L2 l 0).length := hrow
      have hle := hv.eq
      clear hv
      generalize (rd_L2 l 0).length = m at *
      constructor
      · intro h
        refine ⟨fun r k hr hk => ?_, fun r hr => ?_, fun k hk => ?_, ?_⟩
        · have hrm : r * m + k < l.length * m := by
            have := Nat.mul_le_mul_right m (show r + 1 ≤ l.length from hr)
            rw [Nat.add_mul] at this
            omega
          have := h (r * m + k) (by omega)
          rw [bookX_cell hle hr hk, bookX_cell hxe (by omega) hk] at this
          exact this
        · have := h (l.length * m + r) (by omega)
          rw [bookX_line hle hr, ← hcl, bookX_line hxe (by omega)] at this
          exact this
        · have := h (l.length * m + l.length + k) (by omega)
          rw [bookX_col hle hk, ← hcl, bookX_col hxe hk] at this
          exact this
        · have := h (l.length * m + l.length + m) (by omega)
          rw [bookX_all hle, ← hcl, bookX_all hxe] at this
          exact this
      · intro h j hj
        rcases index_cases hj hm0 with ⟨r, k, hr, hk, rfl⟩ | ⟨r, hr, rfl⟩ | ⟨k, hk, rfl⟩ | rfl
        · rw [bookX_cell hle hr hk, bookX_cell hxe (by omega) hk]
          exact h.cell r k hr hk
        · rw [bookX_line hle hr, ← hcl, bookX_line hxe (by omega)]
          exact h.line r hr
        · rw [bookX_col hle hk, ← hcl, bookX_col hxe hk]
          exact h.col k hk
        · rw [bookX_all hle, ← hcl, bookX_all hxe]
          exact h.all
    by_cases hn : nearRow den (pas l) (pas x) = true
    · rw [if_pos hn]
      exact ⟨⟨fun _ => ⟨hg, key.1 hn⟩, fun _ => rfl⟩, .inl rfl⟩
    · rw [if_neg hn]
      exact ⟨⟨fun h => by omega, fun h => absurd (key.2 h.2) hn⟩, .inr rfl⟩
/-! ### lines turned -/
def tr (m : Nat) (l : List (List Int)) : List (List Int) := (List.range m).map fun k => l.map fun x => x.getD k 0
theorem tr_len (m : Nat) (l : List (List Int)) : (tr m l).length = m := by simp [tr]
theorem tr_at {m : Nat} {l : List (List Int)} {k : Nat} (hk : k < m) : (tr m l).getD k [] = l.map fun x => x.getD k 0 := by
  simp [tr, List.getD, hk]
theorem tr_row {m : Nat} {l : List (List Int)} : ∀ x ∈ tr m l, x.length = l.length := by
  intro x hx
  unfold tr at hx
  obtain ⟨k, _, rfl⟩ := List.mem_map.1 hx
  simp
theorem tr_cell {m : Nat} {l : List (List Int)} {k r : Nat} (hk : k < m) (hr : r < l.length) : ((tr m l).getD k []).getD r 0 = (l.getD r []).getD k 0 := by
  rw [tr_at hk]
  simp [List.getD, hr]
theorem tr_line {m : Nat} {l : List (List Int)} {k : Nat} (hk : k < m) : lineS (tr m l) k = colS l k := by
  unfold lineS colS
  rw [tr_at hk]
theorem range_sum (x : List Int) : ((List.range x.length).map fun k => x.getD k 0).sum = x.sum := by
  have : (List.range x.length).map (fun k => x.getD k 0) = x := by
    apply List.ext_getElem
    · simp
    · intro i h1 h2
      simp [List.getD, h2]
  rw [this]
theorem tr_col {m : Nat} {l : List (List Int)} {r : Nat} (h : ∀ x ∈ l, x.length = m) (hr : r < l.length) : colS (tr m l) r = lineS l r := by
  unfold colS lineS tr
  rw [List.map_map]
  have hm := h _ (List.getElem_mem hr)
  have e : l.getD r [] = l[r] := by simp [List.getD, hr]
  rw [e, ← range_sum l[r], hm]
  congr 1
  apply List.map_congr_left
  intro k hk
  simp [List.getD, hr]
theorem sum_add (m : Nat) (f g : Nat → Int) : ((List.range m).map fun k => f k + g k).sum = ((List.range m).map f).sum + ((List.range m).map g).sum := by
  induction m with
  | zero => rfl
  | succ m ih =>
    rw [List.range_succ, List.map_append, List.map_append, List.map_append, List.sum_append, List.sum_append, List.sum_append, ih]
    simp
    omega
theorem tr_all {m : Nat} : ∀ {l : List (List Int)}, (∀ x ∈ l, x.length = m) → allS (tr m l) = allS l
  | [], _ => by
    unfold allS tr
    rw [List.map_map]
    have : (List.range m).map (List.sum ∘ fun k => ([] : List (List Int)).map fun x => x.getD k 0) = List.replicate m 0 := by
      apply List.ext_getElem
      · simp
      · intro i h1 h2; simp
    rw [this]
    simp
  | x :: l, h => by
    have ih := tr_all (l := l) (fun y hy => h y (by simp [hy]))
    unfold allS tr at ih ⊢
    rw [List.map_map] at ih ⊢
    have e : (List.range m).map (List.sum ∘ fun k => (x :: l).map fun x => x.getD k 0) = (List.range m).map (fun k => x.getD k 0 + (List.sum ∘ fun k => l.map fun x => x.getD k 0) k) := by
      apply List.map_congr_left
      intro k _
      simp
    rw [e, sum_add, ih, List.map_cons, List.sum_cons, ← h x (by simp), range_sum]
theorem near_tr {den : Int} {l x : List (List Int)} {n m : Nat} (hl : l.length = n) (hx : x.length = n) (hlm : ∀ y ∈ l, y.length = m) (hxm : ∀ y ∈ x, y.length = m) : NearT den (tr m l) (tr m x) m n ↔ NearT den l x n m := by
  constructor
  · intro h
    refine ⟨fun r k hr hk => ?_, fun r hr => ?_, fun k hk => ?_, ?_⟩
    · have := h.cell k r hk hr
      rw [tr_cell hk (by omega), tr_cell hk (by omega)] at this
      exact this
    · have := h.col r hr
      rw [tr_col hlm (by omega), tr_col hxm (by omega)] at this
      exact this
    · have := h.line k hk
      rw [tr_line hk, tr_line hk] at this
      exact this
    · have := h.all
      rw [tr_all hlm, tr_all hxm] at this
      exact this
  · intro h
    refine ⟨fun k r hk hr => ?_, fun k hk => ?_, fun r hr => ?_, ?_⟩
    · rw [tr_cell hk (by omega), tr_cell hk (by omega)]
      exact h.cell r k hr hk
    · rw [tr_line hk, tr_line hk]
      exact h.col k hk
    · rw [tr_col hlm (by omega), tr_col hxm (by omega)]
      exact h.line r hr
    · rw [tr_all hlm, tr_all hxm]
      exact h.all
theorem mem_cell {x : List (List Int)} {m : Nat} {y : List Int} {v : Int} (hy : y ∈ x) (hv : v ∈ y) : ∃ r k, r < x.length ∧ k < y.length ∧ x.getD r [] = y ∧ (x.getD r []).getD k 0 = v := by
  obtain ⟨r, hr, rfl⟩ := List.mem_iff_getElem.1 hy
  obtain ⟨k, hk, rfl⟩ := List.mem_iff_getElem.1 hv
  refine ⟨r, k, hr, hk, ?_, ?_⟩ <;> simp [List.getD, hr, hk]
theorem cell_mem {x : List (List Int)} {m : Nat} (h : ∀ y ∈ x, y.length = m) {r k : Nat} (hr : r < x.length) (hk : k < m) : ∃ y ∈ x, (x.getD r []).getD k 0 ∈ y := by
  have hl := h _ (List.getElem_mem hr)
  refine ⟨x[r], List.getElem_mem hr, ?_⟩
  have : (x.getD r []).getD k 0 = x[r][k] := by simp [List.getD, hr, show k < x[r].length by omega]
  rw [this]
  exact List.getElem_mem _
theorem good_iff {x : List (List Int)} {m : Nat} (h : ∀ y ∈ x, y.length = m) : GoodC x ↔ ∀ r k, r < x.length → k < m → 0 ≤ (x.getD r []).getD k 0 ∧ (x.getD r []).getD k 0 ≤ 36000000 := by
  constructor
  · intro hg r k hr hk
    obtain ⟨y, hy, hv⟩ := cell_mem h hr hk
    exact hg y hy _ hv
  · intro hg y hy v hv
    obtain ⟨r, k, hr, hk, _, rfl⟩ := mem_cell (m := m) hy hv
    exact hg r k hr (by rw [h y hy] at hk; exact hk)
theorem good_tr {x : List (List Int)} {m : Nat} (hm : 0 < x.length) (h : ∀ y ∈ x, y.length = m) : GoodC (tr m x) ↔ GoodC x := by
  rw [good_iff h, good_iff (m := x.length) tr_row, tr_len]
  constructor
  · intro hg r k hr hk
    have := hg k r hk hr
    rw [tr_cell hk hr] at this
    exact this
  · intro hg k r hk hr
    rw [tr_cell hk hr]
    exact hg r k hr hk
theorem shaped_iff {l x : List (List Int)} : shapedB l x = true ↔ x.length = l.length ∧ ∀ y ∈ x, y.length = (rd_L2 l 0).length := by
  unfold shapedB
  rw [Bool.and_eq_true, decide_eq_true_iff, Bool.not_eq_true', List.any_eq_false]
  refine and_congr Iff.rfl (forall_congr' fun y => forall_congr' fun _ => ?_)
  unfold oddLine
  simp
  omega
theorem rd0_tr {m : Nat} {l : List (List Int)} (hm : 0 < m) : (rd_L2 (tr m l) 0).length = l.length := by
  rw [rd_L2_0 (by rw [tr_len]; exact hm), tr_at hm]
  simp
/-- a table's error, for one that is well formed -/
theorem tableE_iff {den : Int} {l : List (List Int)} : tableE den l = 0 ↔ Tab l ∧ Upto 1000000 l ∧ 1 ≤ den ∧ den ≤ 1000 := by
  constructor
  · intro h
    have hv := Valid.of h
    exact ⟨hv.tab, tableE_upto h, hv.d1, hv.d2⟩
  · rintro ⟨ht, hu, h1, h2⟩
    unfold tableE
    have a0 := ht.n0
    have a6 := ht.n6
    have b0 := ht.m0
    have b6 := ht.m6
    rw [if_neg (by omega)]
    have e1 : l.any (oddLine (rd_L2 l 0).length) = false := by
      rw [List.any_eq_false]
      intro x hx
      unfold oddLine
      simp [ht.eq x hx]
    have e3 : l.any badLine = false := by
      rw [List.any_eq_false]
      intro x hx
      rw [badLine_any, Bool.not_eq_true, List.any_eq_false]
      intro v hv
      have := hu x hx v hv
      unfold badV
      simp
      omega
    have e2 : withinB 1 1000 [den] = true := by
      rw [← withinB_eq]
      simp
      omega
    rw [e1, if_neg (by decide), e2, if_neg (by decide), e3]
    rfl
theorem tableE_tr {den : Int} {l : List (List Int)} (ht : tableE den l = 0) : tableE den (tr (rd_L2 l 0).length l) = 0 := by
  obtain ⟨h1, h2, h3, h4⟩ := tableE_iff.1 ht
  have e := rd0_tr (l := l) h1.m0
  refine tableE_iff.2 ⟨⟨by rw [tr_len]; exact h1.m0, by rw [tr_len]; exact h1.m6, by rw [e]; exact h1.n0, by rw [e]; exact h1.n6, fun x hx => by rw [e]; exact tr_row x hx⟩, fun y hy v hv => ?_, h3, h4⟩
  obtain ⟨k, r, hk, hr, he, rfl⟩ := mem_cell (m := l.length) hy hv
  rw [tr_len] at hk
  rw [tr_row y hy] at hr
  rw [tr_cell hk hr]
  obtain ⟨z, hz, hc⟩ := cell_mem (m := (rd_L2 l 0).length) h1.eq hr hk
  exact h2 z hz _ hc
theorem turned_same {den : Int} {l x : List (List Int)} (ht : tableE den l = 0) (hs : shapedB l x = true) : refRE den (tr (rd_L2 l 0).length l) (tr (rd_L2 l 0).length x) = refRE den l x := by
  obtain ⟨h1, h2, h3, h4⟩ := tableE_iff.1 ht
  obtain ⟨s1, s2⟩ := shaped_iff.1 hs
  have ht' := tableE_tr ht
  have hs' : shapedB (tr (rd_L2 l 0).length l) (tr (rd_L2 l 0).length x) = true := shaped_iff.2 ⟨by rw [tr_len, tr_len], fun y hy => by rw [rd0_tr h1.m0, tr_row y hy, s1]⟩
  obtain ⟨a1, a2⟩ := refRE_sh ht hs
  obtain ⟨b1, b2⟩ := refRE_sh ht' hs'
  rw [tr_len, rd0_tr h1.m0, good_tr (by have := h1.n0; omega) s2, near_tr rfl s1 h1.eq s2] at b1
  rcases a2 with a | a <;> rcases b2 with b | b
  · rw [a, b]
  · have := b1.2 (a1.1 a); omega
  · have := a1.2 (b1.1 b); omega
  · rw [a, b]
/-! ### whole coins added -/
def addC (l : List (List Int)) (i k : Nat) (v : Int) : List (List Int) := l.set i ((l.getD i []).set k ((l.getD i []).getD k 0 + v))
theorem sum_setZ : ∀ (x : List Int) (k : Nat) (v : Int), k < x.length → (x.set k (x.getD k 0 + v)).sum = x.sum + v
  | [], k, v, h => by simp at h
  | a :: x, 0, v, _ => by simp; omega
  | a :: x, k + 1, v, h => by
    rw [List.set_cons_succ, List.sum_cons, List.sum_cons, List.getD_cons_succ, sum_setZ x k v (by simpa using h)]
    omega
section
variable {l : List (List Int)} {i k : Nat} {v : Int}
theorem addC_len : (addC l i k v).length = l.length := by simp [addC]
theorem addC_at (hi : i < l.length) (r : Nat) : (addC l i k v).getD r [] = if r = i then (l.getD i []).set k ((l.getD i []).getD k 0 + v) else l.getD r [] := by
  unfold addC
  rw [List.getD_eq_getElem?_getD, List.getElem?_set]
  by_cases h : i = r
  · subst h
    simp [hi]
  · rw [if_neg h, if_neg (fun e => h e.symm)]
    simp [List.getD]
theorem addC_cell (hi : i < l.length) (hk : k < (l.getD i []).length) (r c : Nat) : ((addC l i k v).getD r []).getD c 0 = (l.getD r []).getD c 0 + if r = i ∧ c = k then v else 0 := by
  rw [addC_at hi]
  by_cases h : r = i
  · subst h
    rw [if_pos rfl, List.getD_eq_getElem?_getD, List.getElem?_set]
    by_cases h2 : k = c
    · subst h2
      rw [if_pos rfl, if_pos hk, if_pos ⟨rfl, rfl⟩]
      rfl
    · rw [if_neg h2, if_neg (fun e => h2 e.2.symm), ← List.getD_eq_getElem?_getD]
      omega
  · rw [if_neg h, if_neg (fun e => h e.1)]
    omega
theorem addC_row (hi : i < l.length) {m : Nat} (h : ∀ x ∈ l, x.length = m) : ∀ x ∈ addC l i k v, x.length = m := by
  intro x hx
  unfold addC at hx
  rcases List.mem_or_eq_of_mem_set hx with hx | rfl
  · exact h x hx
  · rw [List.length_set]
    exact h _ (by simp [List.getD, hi])
theorem addC_line (hi : i < l.length) (hk : k < (l.getD i []).length) (r : Nat) : lineS (addC l i k v) r = lineS l r + if r = i then v else 0 := by
  unfold lineS
  rw [addC_at hi]
  by_cases h : r = i
  · subst h
    rw [if_pos rfl, if_pos rfl, sum_setZ _ _ _ hk]
  · rw [if_neg h, if_neg h]
    omega
theorem addC_map (f : List Int → Int) (hi : i < l.length) (w : Int) (hw : f ((l.getD i []).set k ((l.getD i []).getD k 0 + v)) = f (l.getD i []) + w) : ((addC l i k v).map f).sum = (l.map f).sum + w := by
  unfold addC
  rw [List.map_set, hw]
  have e : f (l.getD i []) = (l.map f).getD i 0 := by simp [List.getD, hi]
  rw [e, sum_setZ _ _ _ (by simpa using hi)]
theorem addC_col (hi : i < l.length) (hk : k < (l.getD i []).length) (c : Nat) : colS (addC l i k v) c = colS l c + if c = k then v else 0 := by
  unfold colS
  refine addC_map _ hi _ ?_
  rw [List.getD_eq_getElem?_getD (l := (l.getD i []).set k _), List.getElem?_set]
  by_cases h2 : k = c
  · subst h2
    rw [if_pos rfl, if_pos hk, if_pos rfl]
    rfl
  · rw [if_neg h2, if_neg (fun e => h2 e.symm), ← List.getD_eq_getElem?_getD]
    omega
theorem addC_all (hi : i < l.length) (hk : k < (l.getD i []).length) : allS (addC l i k v) = allS l + v := by
  unfold allS
  exact addC_map _ hi _ (sum_setZ _ _ _ hk)
end
theorem near_shift {den p b v : Int} (h : 1 ≤ den) : Near den (p + v * den) (den * (b + v)) ↔ Near den p (den * b) := by
  have e1 : flo den (p + v * den) = flo den p + den * v := by
    unfold flo
    rw [Int.add_mul_ediv_right _ _ (by omega), Int.mul_add]
  have e2 : cei den (p + v * den) = cei den p + den * v := by
    unfold cei
    have hd : den ∣ p + v * den ↔ den ∣ p := by
      constructor
      · intro h
        have := Int.dvd_sub h (Int.dvd_mul_left v den)
        simpa using this
      · intro h
        exact Int.dvd_add h (Int.dvd_mul_left v den)
    by_cases h1 : den ∣ p
    · rw [if_pos h1, if_pos (hd.2 h1), Int.mul_comm v den]
    · rw [if_neg h1, if_neg (fun e => h1 (hd.1 e)), Int.add_mul_ediv_right _ _ (by omega), Int.mul_add]
      omega
  unfold Near
  rw [e1, e2, Int.mul_add]
  omega
theorem near_add {den : Int} {l x : List (List Int)} {n m i k : Nat} {v : Int} (hd : 1 ≤ den) (hl : l.length = n) (hx : x.length = n) (hlm : ∀ y ∈ l, y.length = m) (hxm : ∀ y ∈ x, y.length = m) (hi : i < n) (hk : k < m) : NearT den (addC l i k (v * den)) (addC x i k v) n m ↔ NearT den l x n m := by
  have hkl : k < (l.getD i []).length := by
    rw [hlm (l.getD i []) (by simp [List.getD, show i < l.length by omega])]
    exact hk
  have hkx : k < (x.getD i []).length := by
    rw [hxm (x.getD i []) (by simp [List.getD, show i < x.length by omega])]
    exact hk
  have hil : i < l.length := by omega
  have hix : i < x.length := by omega
  have c1 : ∀ r k', Near den (((addC l i k (v * den)).getD r []).getD k' 0) (den * ((addC x i k v).getD r []).getD k' 0) ↔ Near den ((l.getD r []).getD k' 0) (den * (x.getD r []).getD k' 0) := by
    intro r k'
    rw [addC_cell hil hkl, addC_cell hix hkx]
    by_cases h : r = i ∧ k' = k
    · rw [if_pos h, if_pos h]
      exact near_shift hd
    · rw [if_neg h, if_neg h, Int.add_zero, Int.add_zero]
  have c2 : ∀ r, Near den (lineS (addC l i k (v * den)) r) (den * lineS (addC x i k v) r) ↔ Near den (lineS l r) (den * lineS x r) := by
    intro r
    rw [addC_line hil hkl, addC_line hix hkx]
    by_cases h : r = i
    · rw [if_pos h, if_pos h]
      exact near_shift hd
    · rw [if_neg h, if_neg h, Int.add_zero, Int.add_zero]
  have c3 : ∀ r, Near den (colS (addC l i k (v * den)) r) (den * colS (addC x i k v) r) ↔ Near den (colS l r) (den * colS x r) := by
    intro r
    rw [addC_col hil hkl, addC_col hix hkx]
    by_cases h : r = k
    · rw [if_pos h, if_pos h]
      exact near_shift hd
    · rw [if_neg h, if_neg h, Int.add_zero, Int.add_zero]
  have c4 : Near den (allS (addC l i k (v * den))) (den * allS (addC x i k v)) ↔ Near den (allS l) (den * allS x) := by
    rw [addC_all hil hkl, addC_all hix hkx]
    exact near_shift hd
  constructor
  · intro h
    exact ⟨fun r k' a b => (c1 r k').1 (h.cell r k' a b), fun r a => (c2 r).1 (h.line r a), fun r a => (c3 r).1 (h.col r a), c4.1 h.all⟩
  · intro h
    exact ⟨fun r k' a b => (c1 r k').2 (h.cell r k' a b), fun r a => (c2 r).2 (h.line r a), fun r a => (c3 r).2 (h.col r a), c4.2 h.all⟩
theorem rd0_addC {l : List (List Int)} {i k : Nat} {v : Int} (h0 : 0 < l.length) (hi : i < l.length) : (rd_L2 (addC l i k v) 0).length = (rd_L2 l 0).length := by
  rw [rd_L2_0 (by rw [addC_len]; exact h0), rd_L2_0 h0, addC_at hi]
  split
  · rename_i h
    subst h
    rw [List.length_set]
  · rfl
theorem added_same {den : Int} {l x : List (List Int)} {i k : Nat} {v : Int} (ht : tableE den l = 0) (hs : shapedB l x = true) (hi : i < l.length) (hk : k < (rd_L2 l 0).length) (hv : 0 ≤ v ∧ v ≤ 65535) (hx : (x.getD i []).getD k 0 ≤ 1000000) (hy : tableE den (addC l i k (v * den)) = 0) :
    (refRE den l x = 0 → refRE den (addC l i k (v * den)) (addC x i k v) = 0) ∧ (refRE den l x ≠ 0 → 0 ≤ (x.getD i []).getD k 0 → refRE den (addC l i k (v * den)) (addC x i k v) ≠ 0) := by
  obtain ⟨h1, h2, h3, h4⟩ := tableE_iff.1 ht
  obtain ⟨s1, s2⟩ := shaped_iff.1 hs
  have hix : i < x.length := by omega
  have hkx : k < (x.getD i []).length := by
    rw [s2 (x.getD i []) (by simp [List.getD, hix])]
    exact hk
  have e0 := rd0_addC (v := v * den) (k := k) (by omega) hi
  have hs' : shapedB (addC l i k (v * den)) (addC x i k v) = true := shaped_iff.2 ⟨by rw [addC_len, addC_len, s1], by rw [e0]; exact addC_row hix s2⟩
  have a1 := (refRE_sh ht hs).1
  have b1 := (refRE_sh hy hs').1
  rw [addC_len, e0, near_add h3 rfl s1 h1.eq s2 hi hk, good_iff (addC_row (k := k) (v := v) hix s2), addC_len] at b1
  rw [good_iff s2] at a1
  constructor
  · intro h
    obtain ⟨g1, g2⟩ := a1.1 h
    refine b1.2 ⟨fun r c hr hc => ?_, g2⟩
    rw [addC_cell hix hkx]
    have := g1 r c hr hc
    split
    · rename_i e
      rw [e.1, e.2] at this ⊢
      omega
    · omega
  · intro h h0 h9
    obtain ⟨g1, g2⟩ := b1.1 h9
    refine h (a1.2 ⟨fun r c hr hc => ?_, g2⟩)
    have := g1 r c hr hc
    rw [addC_cell hix hkx] at this
    split at this
    · rename_i e
      rw [e.1, e.2] at this ⊢
      omega
    · omega
end Go.Proofs.Ytcgdbjojjpoegaa.P

/- The law's own copy of lines: in rows of their own. -/
namespace Go.Proofs.Ytcgdbjojjpoegaa.P
open Go.RowKit Go.Shelf Go.Proofs.YtcgdbjojjpoegaaW.PrintWords Go.Proofs.YtcgdbjojjpoegaaW.PrintLast Go.Proofs.YtcgdbjojjpoegaaW.PrintMore
set_option linter.unusedVariables false
set_option linter.unusedSimpArgs false

set_option maxRecDepth 100000 in
theorem clone48 {W : World} {A : Option Addr} {c1 : Nat} {x : List Int} (hC : Kd.C (Kd.int .i64) W A x.length x) (h0 : 0 < x.length) (h1 : x.length ≤ 100) :
    ∃ b' cap w', (∀ ty, (Builtin.append_ #[48, 48] ty #[.slice (some ⟨W.heap.size, 0, none⟩) 0 0, .slice A x.length c1]).run Try.prog (W.alloc (.cells #[] 2)) = .ok (.slice (some ⟨b', 0, none⟩) x.length cap) w') ∧ W.heap.size < b' ∧ RowC w' b' 2 cap x ∧ (W.alloc (.cells #[] 2)).grownBy w' none := by
  obtain ⟨ti, hi, hz, hs, hby⟩ := info_parts info2
  have hmx : maxLen = 9223372036854775807 := rfl
  obtain ⟨ad, rfl, _⟩ := Kd.at_int hC 0 (by omega) (by omega)
  have hC2 := Kd.C_below hC (box1 W (.cells #[] 2))
  obtain ⟨v', w', h1, h2, h3⟩ := run_append_arg_grows (P := Try.prog) (W.alloc (.cells #[] 2)) 48 48 2 ti (.int .i64 0) 1 8 Try.underlying48 hi hz hs hby rfl (by decide) ⟨W.heap.size, 0, none⟩ 0 0 [] rfl (fun j u hu => by simp at hu) ad x.length c1 (x.map (Value.int .i64)) (by simp)
    (fun j u hu => by
      obtain ⟨hj, hju⟩ := List.getElem?_eq_some_iff.1 hu
      have hj' : j < x.length := by simpa using hj
      obtain ⟨ad2, e, hcc⟩ := Kd.at_int hC2 (j : Int) (by omega) (by omega)
      injection e with e
      subst e
      rw [Int.toNat_natCast, rd_nat x j hj'] at hcc
      rw [hcc, ← hju]
      simp) (by omega) (by omega) (by omega)
  rw [List.nil_append, Nat.zero_add] at h2
  obtain ⟨b', cap, rfl, hb, _, hrow⟩ := RowC.of_own h2 h0
  refine ⟨b', cap, w', fun ty => ?_, by simp at hb; omega, hrow, h3⟩
  exact h1
set_option maxHeartbeats 2000000 in
set_option maxRecDepth 100000 in
theorem copied44_calls (A : Option Addr) (c : Nat) (l : List (List Int)) (w : World) (hr : Kd.C (Kd.slice 2 (Kd.int .i64)) w A l.length l) (hl : l.length ≤ 100) (hm : ∀ x ∈ l, 0 < x.length ∧ x.length ≤ 100) :
    Calls Try.prog 44 #[.slice A l.length c] w fun e w' => ∃ A' c' rs, e = .returned (.slice A' l.length c') ∧ lines rs = l ∧ Grid w' w.heap.size (.slice A' l.length c') rs ∧ Below w.heap.size w w' := by
  have HR := Lib.hid hr
  have HL := Lib.hid hl
  have HM := Lib.hid hm
  clear hr hl hm
  go_enter Try.func44, Try.ntmps44
  go_wp2
  go_loopg [3, 4] l.length (fun kq v3 v4 w' => ∃ (i : Nat) (A' : Option Addr) (c' : Nat) (rs : List Ln), v4 = .int .i64 i ∧ v3 = .slice A' i c' ∧ Aside0 (i + kq = l.length) ∧ Aside0 (lines rs = l.take i) ∧ Aside0 (Grid w' w.heap.size (.slice A' i c') rs) ∧ Aside0 (Below w.heap.size w w'))
  case atStart => exact ⟨0, none, 0, [], rfl, rfl, ⟨(by omega)⟩, ⟨rfl⟩, ⟨Grid.nil _ _⟩, ⟨Below.refl _ _⟩⟩
  obtain ⟨i, A', c', rs, rfl, rfl, HI, HS, HG, HB⟩ := hrel
  cases gk with
  | zero => as_aux_lemma =>
    have hi' : i = l.length := by have := HI.out; omega
    have hlt : decide (i < l.length) = false := by simp [hi']
    have hlt2 : decide ((i : Int) < (l.length : Int)) = false := decide_eq_false (by omega)
    have HE := Lib.hid hi'
    clear hi'
    go_wp2
    go_ret
    exact ⟨A', c', rs, (by rw [← HE.out]; rfl), (by rw [HS.out, List.take_of_length_le (by have := HE.out; omega)]), (by rw [← HE.out]; exact HG.out), HB.out⟩
  | succ k1 => as_aux_lemma =>
    have hi' : i < l.length := by have := HI.out; omega
    have hlt : decide (i < l.length) = true := by simp [hi']
    have hlt2 : decide ((i : Int) < (l.length : Int)) = true := decide_eq_true (by omega)
    have hC := Kd.C_below HR.out HB.out
    obtain ⟨ad, A1, c1, e0, hc0, hle1, hC1⟩ := at_L2 hC (i : Int) (by omega) (by omega)
    cases e0
    rw [Int.toNat_natCast, rd_L2_nat l i hi'] at hc0
    rw [rd_L2_nat l i hi'] at hle1 hC1
    have hmx := HM.out l[i] (List.getElem_mem hi')
    have HLI := Lib.hid (show l.take (i + 1) = l.take i ++ [l[i]] from List.take_succ_eq_append_getElem hi')
    have hrl : rs.length = i := by
      have := congrArg List.length HS.out
      rw [lines_len, List.length_take] at this
      omega
    have HRL := Lib.hid hrl
    have hi100 : (i : Int) ≤ 100 := by have := HL.out; omega
    clear hC hrl
    generalize l[i] = x at *
    obtain ⟨b', cap, w2, hcp, hb', hrow2, hg2⟩ := clone48 (c1 := c1) hC1 hmx.1 hmx.2
    have hb1 := below_alloc (Below.refl wr.heap.size wr) (.cells #[] 2)
    have HB2 := Lib.hid (below_grown (below_then HB.out HB.out.size hb1) hg2 (fun r hr => by simp at hr))
    have HG2 := Lib.hid (show Grid w2 w.heap.size (.slice A' i c') rs from (HG.out.below hb1).kept hg2 (fun k hk => by simp) (fun r hr => by simp))
    have hge : w.heap.size ≤ wr.heap.size := HB.out.size
    have HNE := Lib.hid (show w.heap.size ≤ b' ∧ some b' ≠ (Value.slice A' i c').ownBlock ∧ ∀ r ∈ rs, r.b ≠ b' from ⟨by omega, fun e => by have := own_lt HG.out.own b' e.symm; omega, fun r hr e => by have := HG.out.lt r hr; omega⟩)
    obtain ⟨A3, c3, w3, hap, hG3, hgr3⟩ := HG2.out.snoc (by have := HRL.out; have := HL.out; omega) b' cap x hrow2 HNE.out.1 HNE.out.2.1 HNE.out.2.2 HB2.out.size
    rw [HRL.out] at hap hG3
    have HG3 := Lib.hid hG3
    have HB3 := Lib.hid (below_grown (below_then HB2.out HB2.out.size (below_alloc (Below.refl _ _) (.cells #[.slice (some ⟨b', 0, none⟩) x.length cap] 48))) hgr3 (fun r hr => own_base HG.out.own r hr))
    have hc1 := cell_in hb1 hc0
    clear hb1 hrow2 hg2 hc0 hge hG3 hgr3 HNE HG2 HB2 HG HB hC1 hle1 hb'
    have hx0 := hmx.1
    have hx1 : (x.length : Int) ≤ 100 := by omega
    clear hmx
    go_wp2_with (first
      | ((with_reducible refine gate_dst (N := 17) rfl ?_); (with_reducible refine gate_builtin (b := .append) (xs := #[.tmp 12, .tmp 16]) rfl ?_); at_builtin; refine append_run rfl (.tmp 12) (.tmp 16) 48 rfl _ _ _ w2 rfl rfl hcp ?_)
      | ((with_reducible refine gate_builtin (b := .append) (xs := #[.tmp 11, .tmp 18]) rfl ?_); at_builtin; refine append_run rfl (.tmp 11) (.tmp 18) 37 rfl _ _ _ w3 rfl rfl hap ?_))
    go_roundg k1
    case rel => exact ⟨i + 1, A3, c3, rs ++ [⟨b', cap, x⟩], (by go_num), rfl, ⟨by have := HI.out; omega⟩, ⟨(by rw [HLI.out, ← HS.out]; simp [lines])⟩, ⟨HG3.out⟩, ⟨HB3.out⟩⟩
    case measure => omega
end Go.Proofs.Ytcgdbjojjpoegaa.P

namespace Go.Proofs.Ytcgdbjojjpoegaa.P
open Go.RowKit Go.Proofs.YtcgdbjojjpoegaaW.PrintWords Go.Proofs.YtcgdbjojjpoegaaW.PrintLast Go.Proofs.YtcgdbjojjpoegaaW.PrintMore
attribute [local go_sem] max2_int min2_int max_two min_two max_three min_three max_four min_four   -- for this text's walks alone
set_option linter.unusedVariables false
set_option linter.unusedSimpArgs false

/-! ### forecourtlaw09_turned: function 43 -/
mutual
def forecourtlaw09_turned.l0 : Nat → List (List Int) → List (List Int) → Int → Option ((List (List Int)))
  | 0, _, _, _ => none
  | k + 1, x0, x3, x4 => if (x0.length : Int) > 0 then (if 0 < (x0.length : Int) then (forecourtlaw09_turned.j1 k x0 x3 x4 (decide (x4 < ((rd_L2 x0 0).length : Int)))) else (none)) else (forecourtlaw09_turned.j1 k x0 x3 x4 false)
def forecourtlaw09_turned.j1 : Nat → List (List Int) → List (List Int) → Int → Bool → Option ((List (List Int)))
  | 0, _, _, _, _ => none
  | k + 1, x0, x3, x4, x17 => if x17 = true then (forecourtlaw09_turned.l1 k x0 x3 x4 ([] : List Int) 0) else (some x3)
def forecourtlaw09_turned.l1 : Nat → List (List Int) → List (List Int) → Int → List Int → Int → Option ((List (List Int)))
  | 0, _, _, _, _, _ => none
  | k + 1, x0, x3, x4, x5, x6 => if x6 < (x0.length : Int) then (if 0 ≤ x6 then (if 0 ≤ x4 then (if x4 < ((rd_L2 x0 x6).length : Int) then (if x5.length < 17592186044416 then (forecourtlaw09_turned.l1 k x0 x3 x4 (x5 ++ [rd (rd_L2 x0 x6) x4]) (wrap64 (x6 + 1))) else (none)) else (none)) else (none)) else (none)) else (if x3.length < 5864062014805 then (forecourtlaw09_turned.l0 k x0 (x3 ++ [x5]) (wrap64 (x4 + 1))) else (none))
end
def forecourtlaw09_turned.f (k : Nat) (l0 : List (List Int)) : Option ((List (List Int))) := forecourtlaw09_turned.l0 k l0 ([] : List (List Int)) 0
set_option maxHeartbeats 8000000 in
set_option maxRecDepth 100000 in
theorem forecourtlaw09_turned.calls (k : Nat) (A0 : Option Addr) (c0 : Nat) (l0 : List (List Int)) (r : List (List Int)) (w : World) (hr0 : Kd.C (Kd.slice 2 (Kd.int .i64)) w A0 l0.length l0) (hc0 : l0.length ≤ c0) (h : forecourtlaw09_turned.f k l0 = some r) :
    Calls Try.prog 43 #[.slice A0 l0.length c0] w fun e w' => ∃ v0_ : Value, e = .returned (v0_) ∧ Kd.S (Kd.slice 2 (Kd.int .i64)) 48 w' w.heap.size (fun _ => True) v0_ r ∧ Below w.heap.size w w' := by
  have HR0 := Aside0.mk hr0
  have HC0 := Aside0.mk hc0
  clear hr0 hc0
  have HB := Aside0.mk (Below.refl w.heap.size w)
  have H : (forecourtlaw09_turned.l0 k l0 ([] : List (List Int)) 0) = some r := h
  clear h
  have H' := Aside0.mk H
  clear H
  go_enter Try.func43, Try.ntmps43
  go_wp2
  go_loopg [3, 4] k (fun kq v3 v4 w' => ∃ (x3_1 : List (List Int)) (x4_1 : Int), v4 = .int .i64 x4_1 ∧ Aside0 (forecourtlaw09_turned.l0 kq l0 x3_1 x4_1 = some r) ∧ Aside0 (kq ≤ k) ∧ Aside0 (Kd.S (Kd.slice 2 (Kd.int .i64)) 48 w' w.heap.size (fun _ => True) v3 x3_1) ∧ Aside0 (Below w.heap.size w w'))
  case atStart => exact ⟨(([] : List (List Int))), (0), b5_, H', ⟨Nat.le_refl _⟩, ⟨(by first | exact Kd.S_nil _ _ _ _ _ | exact Kd.N_nil _ _ _ _ _ | exact Kd.V_nil _ _ _ _ _ | exact Kd.Q_nil _ _ _ _ _ | exact Kd.R_nil _ _ _ _ _)⟩, ⟨b6_⟩⟩
  clear H'
  obtain ⟨x3_1, x4_1, rfl, HA, HK1, HO_3, HB⟩ := hrel
  cases gk with
  | zero => exact absurd HA.out (by simp [forecourtlaw09_turned.l0])
  | succ k1 => ?_
  have H := HA.out
  clear HA
  simp only [forecourtlaw09_turned.l0] at H
  have HC2 := Aside0.mk H
  clear H
  go_upto_region 3 with (fail)
  go_cut [17] (fun v17 wc => ∃ (kq : Nat) (x17_1 : Bool), v17 = .bool x17_1 ∧ Aside0 (forecourtlaw09_turned.j1 kq l0 x3_1 x4_1 x17_1 = some r) ∧ Aside0 (kq ≤ k1) ∧ Aside0 (Kd.S (Kd.slice 2 (Kd.int .i64)) 48 wc w.heap.size (fun _ => True) u3 x3_1) ∧ Aside0 (Below w.heap.size w wc))
  case first =>
    have H := HC2.out
    clear HC2
    by_cases c3 : (l0.length : Int) > 0
    rotate_left
    · rw [if_neg c3] at H
      have c3b0 : decide (0 < (l0.length : Int)) = false := decide_eq_false c3
      have c3b1 : decide (0 < l0.length) = false := decide_eq_false (by omega)
      clear c3
      (first | rw [c3b0] | (simp only [i64_w, i32_w]; rw [c3b0]) | skip)
      have H' := Aside0.mk H
      clear H
      go_wp2
      go_meet
      case rel => exact ⟨_, (false), b5_, H', ⟨(by have := HK1.out; first | omega | exact Nat.le_refl _)⟩, ⟨b33_⟩, ⟨b6_⟩⟩
    rw [if_pos c3] at H
    have c3b0 : decide (0 < (l0.length : Int)) = true := decide_eq_true c3
    have c3b1 : decide (0 < l0.length) = true := decide_eq_true (by omega)
    clear c3
    (first | rw [c3b0] | (simp only [i64_w, i32_w]; rw [c3b0]) | skip)
    by_cases c4 : 0 < (l0.length : Int)
    rotate_left
    · rw [if_neg c4] at H
      exact absurd H (by simp)
    rw [if_pos c4] at H
    have c4b0 : decide (0 < (l0.length : Int)) = true := decide_eq_true c4
    have c4b1 : decide (0 < l0.length) = true := decide_eq_true (by omega)
    clear c4
    have H' := Aside0.mk H
    clear H
    have p586 : 0 ≤ (0 : Int) := (by omega)
    have q586 : 0 < (l0.length : Int) := of_decide_eq_true b2_
    obtain ⟨ad586, A586_0, c586_0, e586, hx586_0, hl586_0, hi586_0⟩ := at_L2 HR0.out 0 p586 q586
    cases e586
    have qi586 : (0 < l0.length) = True := eq_true (by omega)
    (try rw [show ((0 : Int)).toNat = 0 from rfl] at hx586_0)
    (try rw [Addr.add_zero'] at hx586_0)
    replace hx586_0 := (HB.out.cell (World.block_lt_of_cell? w _ hx586_0)).trans hx586_0
    have HR586_0 := Aside0.mk hi586_0
    have HC586_0 := Aside0.mk hl586_0
    clear hi586_0 hl586_0
    replace p586 := eq_true p586
    replace q586 := eq_true q586
    go_wp2
    go_meet
    case rel => exact ⟨_, (decide (x4_1 < ((rd_L2 l0 0).length : Int))), b5_, H', ⟨(by have := HK1.out; first | omega | exact Nat.le_refl _)⟩, ⟨b33_⟩, ⟨b6_⟩⟩
  clear HC2
  try clear p2
  try clear c3
  try clear c3b0
  try clear c3b1
  try clear c4
  try clear c4b0
  try clear c4b1
  try clear hx586_0
  try clear p586
  try clear q586
  obtain ⟨kq, x17_1, rfl, HA, HJ1, HO_3, HB⟩ := hcut
  cases kq with
  | zero => exact absurd HA.out (by simp [forecourtlaw09_turned.j1])
  | succ kj1 => ?_
  have H := HA.out
  clear HA
  simp only [forecourtlaw09_turned.j1] at H
  by_cases c5 : x17_1 = true
  rotate_left
  · replace c5 := Bool.eq_false_iff.mpr c5
    subst c5
    have H1 : (some x3_1) = some r := by rw [if_neg (show ¬ (false = true) by decide)] at H; exact H
    clear H
    have H := H1
    clear H1
    obtain rfl := Option.some.inj H
    go_wp2
    go_ret
    exact ⟨_, b4_, b33_, b6_⟩
  subst c5
  have H1 : (forecourtlaw09_turned.l1 kj1 l0 x3_1 x4_1 ([] : List Int) 0) = some r := by rw [if_pos rfl] at H; exact H
  clear H
  have H := H1
  clear H1
  have H' := Aside0.mk H
  clear H
  go_wp2
  go_loopg [5, 6] kj1 (fun kq v5 v6 w' => ∃ (x5_3 : List Int) (x6_3 : Int), v6 = .int .i64 x6_3 ∧ Aside0 (forecourtlaw09_turned.l1 kq l0 x3_1 x4_1 x5_3 x6_3 = some r) ∧ Aside0 (kq ≤ kj1) ∧ Aside0 (Kd.S (Kd.slice 2 (Kd.int .i64)) 48 w' w.heap.size (fun k_ => some k_ ≠ (v5 : Value).ownBlock) u3 x3_1) ∧ Aside0 (Kd.R (Kd.int .i64) 2 w' w.heap.size (fun _ => True) v5 x5_3) ∧ Aside0 (Below w.heap.size w w'))
  case atStart => exact ⟨(([] : List Int)), (0), b5_, H', ⟨Nat.le_refl _⟩, ⟨(by (with_reducible repeat (first | apply Kd.S_alloc | apply Kd.S_drewN | apply Kd.S_drew)); exact Kd.S_mono HO_3.out (fun _ hk => (by simp [Value.ownBlock])))⟩, ⟨b22_⟩, ⟨b6_⟩⟩
  clear H'
  try clear p2
  try clear c3
  try clear c3b0
  try clear c3b1
  try clear c4
  try clear c4b0
  try clear c4b1
  try clear c5
  try clear p5
  try clear q5
  try clear hx5
  try clear qi5
  try clear hx586_0
  try clear p2
  try clear p586
  try clear q586
  obtain ⟨x5_3, x6_3, rfl, HA, HK3, HO_3, HO_5, HB⟩ := hrel
  cases gk with
  | zero => exact absurd HA.out (by simp [forecourtlaw09_turned.l1])
  | succ k3 => ?_
  have H := HA.out
  clear HA
  simp only [forecourtlaw09_turned.l1] at H
  by_cases c6 : x6_3 < (l0.length : Int)
  rotate_left
  · rw [if_neg c6] at H
    have c6b0 : decide (x6_3 < (l0.length : Int)) = false := decide_eq_false c6
    clear c6
    by_cases c12 : x3_1.length < 5864062014805
    rotate_left
    · rw [if_neg c12] at H
      exact absurd H (by simp)
    rw [if_pos c12] at H
    have LMc12 := Aside0.mk c12
    clear c12
    obtain ⟨y592, hy592⟩ : ∃ y_ : List (List Int), y_ = (x3_1 ++ [x5_3]) := ⟨_, rfl⟩
    replace H : (forecourtlaw09_turned.l0 k3 l0 y592 (wrap64 (x4_1 + 1))) = some r := by first | (rw [hy592]; with_reducible exact H) | (have H2_ := (Option.bind_some _ _).symm.trans H; rw [hy592]; with_reducible exact H2_) | (have H2_ := (Option.bind_some _ _).symm.trans H; with_reducible exact H2_) | with_reducible exact H | (rw [hy592]; exact H) | exact H
    have Ny592 := Aside0.mk hy592
    clear hy592
    have H' := Aside0.mk H
    clear H
    obtain ⟨Ao14, co14, eo14⟩ := Kd.R_slice HO_5.out
    subst eo14
    go_wp2_with (first | ((with_reducible refine gate_builtin (b := .append) (xs := #[.tmp 36, .tmp 38]) rfl ?_); (try (refine gate_guard (by rfl) ?_; dsimp only)); at_builtin; refine Kd.S_append (Kd.slice 2 (Kd.int .i64)) (w0 := w) w.heap.size rfl (.tmp 36) (.tmp 38) 37 48 (.slice none 0 0) 24 rfl Try.underlying37 info48 rfl (by decide) (by omega) u3 x3_1 x5_3 [.slice Ao14 x5_3.length co14] (fun _ => True) (fun k_ => some k_ = (.slice Ao14 x5_3.length co14 : Value).ownBlock) rfl rfl ?aP (fun k_ hk_ => ((Kd.R_mono (ok' := fun k_ => ((fun _ => True)) k_ ∧ some k_ ≠ (u3 : Value).ownBlock) (Kd.R_apart' (HO_5.out) (Kd.S_typed HO_3.out) (by decide)) (fun k_ hk => ⟨trivial, hk.2⟩))).1 k_ hk_.symm) ?aF ?aO ?aB ?aS ?aL ?_; (case aP => exact Kd.M_row (Kd.R_mono (Kd.R_tight rfl (Kd.R_mono (ok' := fun k_ => ((fun _ => True)) k_ ∧ some k_ ≠ (u3 : Value).ownBlock) (Kd.R_apart' (HO_5.out) (Kd.S_typed HO_3.out) (by decide)) (fun k_ hk => ⟨trivial, hk.2⟩))) (fun _ h_ => h_))); (case aB => exact b6_); (case aF => exact (fun _ _ => trivial)); (case aO => exact (by (with_reducible repeat (first | apply Kd.S_alloc | apply Kd.S_drewN | apply Kd.S_drew)); exact Kd.S_mono HO_3.out (fun k_ hk => ⟨trivial, fun e_ => hk e_⟩))); (case aS => exact (below_size b6_)); (case aL => have := LMc12.out; omega); intro v593 w13 ho hb hg hat; rw [← Ny592.out] at ho; replace HB := Aside0.mk (hb); have HO594 := Aside0.mk (ho); clear HO_3 HO_5; clear ho hb hg hat))
    go_roundg k3
    case measure => have := HK1.out; have := HJ1.out; have := HK3.out; omega
    case rel => exact ⟨(y592), (wrap64 (x4_1 + 1)), b5_, H', ⟨(by have := HK1.out; have := HJ1.out; have := HK3.out; omega)⟩, ⟨(by (with_reducible repeat (first | apply Kd.S_alloc | apply Kd.S_drewN | apply Kd.S_drew)); exact HO594.out)⟩, ⟨b6_⟩⟩
  rw [if_pos c6] at H
  have c6b0 : decide (x6_3 < (l0.length : Int)) = true := decide_eq_true c6
  clear c6
  by_cases c7 : 0 ≤ x6_3
  rotate_left
  · rw [if_neg c7] at H
    exact absurd H (by simp)
  rw [if_pos c7] at H
  have c7b0 : decide (0 ≤ x6_3) = true := decide_eq_true c7
  clear c7
  by_cases c8 : 0 ≤ x4_1
  rotate_left
  · rw [if_neg c8] at H
    exact absurd H (by simp)
  rw [if_pos c8] at H
  have c8b0 : decide (0 ≤ x4_1) = true := decide_eq_true c8
  clear c8
  by_cases c9 : x4_1 < ((rd_L2 l0 x6_3).length : Int)
  rotate_left
  · rw [if_neg c9] at H
    exact absurd H (by simp)
  rw [if_pos c9] at H
  have c9b0 : decide (x4_1 < ((rd_L2 l0 x6_3).length : Int)) = true := decide_eq_true c9
  clear c9
  by_cases c10 : x5_3.length < 17592186044416
  rotate_left
  · rw [if_neg c10] at H
    exact absurd H (by simp)
  rw [if_pos c10] at H
  have LMc10 := Aside0.mk c10
  clear c10
  obtain ⟨y589, hy589⟩ : ∃ y_ : List Int, y_ = (x5_3 ++ [rd (rd_L2 l0 x6_3) x4_1]) := ⟨_, rfl⟩
  replace H : (forecourtlaw09_turned.l1 k3 l0 x3_1 x4_1 y589 (wrap64 (x6_3 + 1))) = some r := by first | (rw [hy589]; with_reducible exact H) | (have H2_ := (Option.bind_some _ _).symm.trans H; rw [hy589]; with_reducible exact H2_) | (have H2_ := (Option.bind_some _ _).symm.trans H; with_reducible exact H2_) | with_reducible exact H | (rw [hy589]; exact H) | exact H
  have Ny589 := Aside0.mk hy589
  clear hy589
  have H' := Aside0.mk H
  clear H
  have p587 : 0 ≤ (x6_3 : Int) := of_decide_eq_true b2_
  have q587 : x6_3 < (l0.length : Int) := of_decide_eq_true b2_
  obtain ⟨ad587, A587_0, c587_0, e587, hx587_0, hl587_0, hi587_0⟩ := at_L2 HR0.out x6_3 p587 q587
  cases e587
  replace hx587_0 := (HB.out.cell (World.block_lt_of_cell? w _ hx587_0)).trans hx587_0
  have HR587_0 := Aside0.mk hi587_0
  have HC587_0 := Aside0.mk hl587_0
  clear hi587_0 hl587_0
  replace p587 := eq_true p587
  replace q587 := eq_true q587
  have p588 : 0 ≤ (x4_1 : Int) := of_decide_eq_true b2_
  have q588 : x4_1 < ((rd_L2 l0 x6_3).length : Int) := of_decide_eq_true b2_
  obtain ⟨ad588, e588, hx588_0⟩ := Kd.at_int HR587_0.out x4_1 p588 q588
  cases e588
  replace hx588_0 := (HB.out.cell (World.block_lt_of_cell? w _ hx588_0)).trans hx588_0
  replace p588 := eq_true p588
  replace q588 := eq_true q588
  go_wp2_with (first | ((with_reducible refine gate_builtin (b := .append) (xs := #[.tmp 26, .tmp 34]) rfl ?_); (try (refine gate_guard (by rfl) ?_; dsimp only)); at_builtin; refine Kd.R_append (Kd.int .i64) (w0 := w) w.heap.size rfl (.tmp 26) (.tmp 34) 48 2 (.int .i64 0) 8 rfl Try.underlying48 info2 rfl (by decide) (by omega) u5 x5_3 (rd (rd_L2 l0 x6_3) x4_1) [.int .i64 (rd (rd_L2 l0 x6_3) x4_1)] (fun _ => True) (fun _ => False) rfl rfl ?aP (fun _ hk => hk.elim) ?aF ?aO ?aB ?aS ?aL ?_; (case aP => exact rfl); (case aB => exact b6_); (case aF => exact (fun _ _ => trivial)); (case aO => exact b10_); (case aS => exact (below_size b6_)); (case aL => have := LMc10.out; omega); intro v590 w11 ho hb hg hat; rw [← Ny589.out] at ho; replace HO_3 := Aside0.mk (Kd.S_after (ok := (fun _ => True)) (by (with_reducible repeat (first | apply Kd.S_alloc | apply Kd.S_drewN | apply Kd.S_drew)); exact Kd.S_mono HO_3.out (fun _ hk => ⟨trivial, hk⟩)) hg hat); replace HB := Aside0.mk (hb); have HO591 := Aside0.mk (ho); clear HO_5; clear ho hb hg hat))
  go_roundg k3
  case measure => have := HK1.out; have := HJ1.out; have := HK3.out; omega
  case rel => exact ⟨(y589), (wrap64 (x6_3 + 1)), b5_, H', ⟨(by have := HK1.out; have := HJ1.out; have := HK3.out; omega)⟩, ⟨(by (with_reducible repeat (first | apply Kd.S_alloc | apply Kd.S_drewN | apply Kd.S_drew)); exact Kd.S_mono HO_3.out (fun _ hk => hk.2))⟩, ⟨(by (with_reducible repeat (first | apply Kd.R_alloc | apply Kd.R_drewN | apply Kd.R_drew)); exact HO591.out)⟩, ⟨b6_⟩⟩

end Go.Proofs.Ytcgdbjojjpoegaa.P

/- Lines turned, in memory; lines with a number changed. -/
namespace Go.Proofs.Ytcgdbjojjpoegaa.P
open Go.RowKit Go.Shelf Go.Proofs.YtcgdbjojjpoegaaW.PrintWords Go.Proofs.YtcgdbjojjpoegaaW.PrintLast Go.Proofs.YtcgdbjojjpoegaaW.PrintMore
set_option linter.unusedVariables false
set_option linter.unusedSimpArgs false

theorem turned_l1 (l : List (List Int)) (m : Nat) (hp : 0 < l.length) (hl : l.length ≤ 10) (hm : m ≤ 10) (hr : ∀ x ∈ l, x.length = m) : ∀ N : Nat,
    (∀ k : Nat, k ≤ m → 0 < l.length → (m - k) * 30 + 2 ≤ N → forecourtlaw09_turned.l0 N l ((tr m l).take k) (k : Int) = some (tr m l)) ∧
    (∀ k i : Nat, k < m → i ≤ l.length → (m - k) * 30 ≤ N + i → forecourtlaw09_turned.l1 N l ((tr m l).take k) (k : Int) (((tr m l).getD k []).take i) (i : Int) = some (tr m l)) ∧
    (∀ k : Nat, k < m → 0 < l.length → (m - k) * 30 + 2 ≤ N + 1 → forecourtlaw09_turned.j1 N l ((tr m l).take k) (k : Int) true = some (tr m l)) := by
  intro N
  induction N with
  | zero => exact ⟨fun k _ _ h => by omega, fun k i hk hi h => by omega, fun k _ _ h => by omega⟩
  | succ N ih =>
    refine ⟨fun k hk h0 hN => ?_, fun k i hk hi hN => ?_, fun k hk h0 hN => ?_⟩
    · rw [forecourtlaw09_turned.l0, if_pos (by omega), if_pos (by omega)]
      have e : (rd_L2 l 0).length = m := by
        rw [rd_L2_0 h0]
        exact hr _ (by simp [List.getD, h0])
      rw [e]
      by_cases hlt : k < m
      · rw [decide_eq_true (show (k : Int) < (m : Int) by omega)]
        exact ih.2.2 k hlt h0 (by omega)
      · rw [decide_eq_false (show ¬ (k : Int) < (m : Int) by omega)]
        obtain ⟨N, rfl⟩ : ∃ j, N = j + 1 := ⟨N - 1, by omega⟩
        rw [forecourtlaw09_turned.j1, if_neg (by decide), List.take_of_length_le (by rw [tr_len]; omega)]
    · rw [forecourtlaw09_turned.l1]
      by_cases hlt : i < l.length
      · have hrow := hr l[i] (List.getElem_mem hlt)
        rw [if_pos (by omega), if_pos (by omega), if_pos (by omega), rd_L2_nat l i hlt, if_pos (by omega), if_pos (by rw [List.length_take]; omega), wrapS i (by omega), rd_nat _ k (by omega)]
        have h := ih.2.1 k (i + 1) hk (by omega) (by omega)
        have e : ((tr m l).getD k []).take (i + 1) = ((tr m l).getD k []).take i ++ [l[i][k]] := by
          rw [tr_at hk, List.take_succ_eq_append_getElem (by simpa using hlt)]
          simp [List.getD, show k < l[i].length by omega]
        rw [e] at h
        exact h
      · have h := ih.1 (k + 1) (by omega) (by omega) (by omega)
        rw [if_neg (by omega), if_pos (by rw [List.length_take, tr_len]; omega), wrapS k (by omega)]
        have e1 : ((tr m l).getD k []).take i = (tr m l).getD k [] := List.take_of_length_le (by rw [tr_at hk, List.length_map]; omega)
        have e2 : (tr m l).take (k + 1) = (tr m l).take k ++ [(tr m l).getD k []] := by
          rw [List.take_succ_eq_append_getElem (by rw [tr_len]; exact hk)]
          simp [List.getD, tr_len, hk]
        rw [e1]
        rw [e2] at h
        exact h
    · rw [forecourtlaw09_turned.j1, if_pos rfl]
      exact ih.2.1 k 0 hk (Nat.zero_le _) (by omega)
theorem turned_eq {l : List (List Int)} {m : Nat} (h0 : 0 < l.length) (hl : l.length ≤ 10) (hm : m ≤ 10) (hr : ∀ x ∈ l, x.length = m) : forecourtlaw09_turned.f 1000 l = some (tr m l) := by
  have := (turned_l1 l m h0 hl hm hr 1000).1 0 (by omega) h0 (by omega)
  exact this
theorem turned43_calls (A : Option Addr) (c : Nat) (l : List (List Int)) (m : Nat) (w : World) (hr : Kd.C (Kd.slice 2 (Kd.int .i64)) w A l.length l) (hc : l.length ≤ c) (h0 : 0 < l.length) (hl : l.length ≤ 10) (hm : m ≤ 10) (hm2 : ∀ x ∈ l, x.length = m) :
    Calls Try.prog 43 #[.slice A l.length c] w fun e w' => ∃ A' c', e = .returned (.slice A' m c') ∧ Kd.S (Kd.slice 2 (Kd.int .i64)) 48 w' w.heap.size (fun _ => True) (.slice A' m c') (tr m l) ∧ m ≤ c' ∧ Kd.C (Kd.slice 2 (Kd.int .i64)) w' A' (tr m l).length (tr m l) ∧ Below w.heap.size w w' := by
  refine (forecourtlaw09_turned.calls 1000 A c l (tr m l) w hr hc (turned_eq h0 hl hm hm2)).mono ?_
  rintro e w' ⟨v, rfl, ho, hb⟩
  obtain ⟨A9, n9, c9, rfl⟩ : ∃ A n c, v = .slice A n c := by
    obtain ⟨A9, c9, h9⟩ := Kd.R_slice (Kd.S_R ho)
    exact ⟨_, _, _, h9⟩
  have hR := Rd.of (Kd.S_R ho)
  have hn : n9 = m := hR.hn.trans (tr_len m l)
  subst hn
  have h9 := hR.hc
  exact ⟨A9, c9, rfl, ho, h9, hR.C, hb⟩
/-- What lies in blocks of other types stays. -/
theorem S_other {α : Type} {d : Kd α} {e : TypeId} {w : World} {base : Nat} {ok : Nat → Prop} {v : Value} {xs : List α} (h : Kd.S d e w base ok v xs) {g t : Nat} {cells : Array Value} (hb : w.heap[g]? = some (.cells cells t (0, 0))) (ht : ∀ q, q ∈ e :: d.E → q ≠ t) (j : Nat) (u : Value) : Kd.S d e (w.setCell ⟨g, j, none⟩ u) base ok v xs :=
  Kd.S_mono (Kd.S_step (Kd.S_bound h) (fun k hk hl => (grown_set w g j u).block k hl (fun e9 => by
    injection e9 with e9
    subst e9
    obtain ⟨q, hq, c9, h9⟩ := hk.2.2.2
    rw [hb] at h9
    injection h9 with h9
    injection h9 with _ h9
    exact ht q hq h9.symm))) (fun _ hk => hk.1)
theorem lines_set (rs : List Ln) (i k : Nat) (hi : i < rs.length) (x : Int) : lines (rs.set i ⟨rs[i].b, rs[i].c, rs[i].l.set k x⟩) = (lines rs).set i (((lines rs).getD i []).set k x) := by
  unfold lines
  rw [List.map_set]
  congr 2
  simp [List.getD, hi]
end Go.Proofs.Ytcgdbjojjpoegaa.P

namespace Go.Proofs.Ytcgdbjojjpoegaa.P
open Go.RowKit Go.ChangeShapes Go.WideShapes Go.Deep Go.Joins Go.Proofs.YtcgdbjojjpoegaaW.PrintWords Go.Proofs.YtcgdbjojjpoegaaW.PrintLast Go.Proofs.YtcgdbjojjpoegaaW.PrintMore Go.Proofs.YtcgdbjojjpoegaaK
set_option maxRecDepth 100000
theorem opens48 : Opens Try.prog 48 (Kd.slice 2 (Kd.int .i64)) (fun x => ∀ y ∈ x, I64 y) := by
  intro H enc w base spare held fuel cs x h
  obtain ⟨A, c, l, rfl, hl, hC, hok⟩ := opens_slice (d := Kd.int .i64) Try.underlying48 (by kernel_rfl) opens2 h
  exact ⟨l, ⟨A, c, rfl, hl, hC⟩, hok⟩
/-- Lines of numbers that were passed. -/
theorem arg_grid {H : Type} {enc : TypeId × Value → H} {w : World} {r : Reach} {b0 : Nat} {spare : Nat → Bool} {v : Value} {dd : DataW H} {p : List MemPlace} (hv : Value.okWide Try.prog w r b0 37 v) (h : DataW.Trod enc Try.prog w 0 spare true 37 v dd p) :
    ∃ (A : Option Addr) (c : Nat) (l : List (List Int)), v = .slice A l.length c ∧ l.length ≤ c ∧ Kd.C (Kd.slice 2 (Kd.int .i64)) w A l.length l ∧ ∀ x ∈ l, ∀ y ∈ x, I64 y := arg_slice (d := Kd.slice 2 (Kd.int .i64)) Try.underlying37 (by kernel_rfl) opens48 hv h
/-- A table that was passed. -/
theorem arg_table {H : Type} {enc : TypeId × Value → H} {w : World} {r : Reach} {b0 : Nat} {spare : Nat → Bool} {v : Value} {dd : DataW H} {p : List MemPlace} (hv : Value.okWide Try.prog w r b0 39 v) (h : DataW.Trod enc Try.prog w 0 spare true 39 v dd p) :
    ∃ (a : Int) (A : Option Addr) (c : Nat) (l : List (List Int)), v = .agg #[.int .i64 a, .slice A l.length c] ∧ I64 a ∧ l.length ≤ c ∧ Kd.C (Kd.slice 2 (Kd.int .i64)) w A l.length l ∧ ∀ x ∈ l, ∀ y ∈ x, I64 y := by
  obtain ⟨v0, v1, y0, y1, n, rfl, rfl, rfl, h0, h1⟩ := open_agg2 Try.underlying39 (by kernel_rfl) (by kernel_rfl) hv h
  obtain ⟨a, e0, _, wa⟩ := DataW.trod_int Try.underlying2 h0
  obtain ⟨A, c, l, e1, hl, hC, hok⟩ := opens_slice (d := Kd.slice 2 (Kd.int .i64)) Try.underlying37 (by kernel_rfl) opens48 h1
  simp only [List.cons.injEq, and_true] at e0 e1
  subst e0 e1
  exact ⟨a, A, c, l, rfl, wa, hl, hC, hok⟩
end Go.Proofs.Ytcgdbjojjpoegaa.P

namespace Go.Proofs.Ytcgdbjojjpoegaa.P
open Go.RowKit Go.Shelf Go.Proofs.YtcgdbjojjpoegaaW.PrintWords Go.Proofs.YtcgdbjojjpoegaaW.PrintLast Go.Proofs.YtcgdbjojjpoegaaW.PrintMore Go.Proofs.YtcgdbjojjpoegaaM Go.Proofs.YtcgdbjojjpoegaaR
set_option linter.unusedVariables false
set_option linter.unusedSimpArgs false
set_option maxRecDepth 100000

def turned11.T3 : Bool × List (List Nat × List Nat) := (true, [([], []), ([0], [0]), ([], []), ([2], [2]), ([3], [3]), ([1, 4], [1, 4]), ([], []), ([6, 5, 4, 0, 1, 2, 3, 4, 5, 6], [5, 6])])
def turned11.B3 : List Nat := [0, 1, 0, 4, 12, 31, 0, 127]
theorem turned11.tab3 : rtab .any (opsOf Try.f11 3) = turned11.T3 := by kernel_rfl
theorem turned11.bits3 : waitsOk turned11.T3.2 turned11.B3 = true := by kernel_rfl
def turned11.T4 : Bool × List (List Nat × List Nat) := (true, [([], []), ([0], [0]), ([], []), ([2], [2]), ([3], [3]), ([1, 4], [1, 4]), ([], []), ([6, 5, 4, 0, 1, 2, 3, 4, 5, 6], [5, 6])])
def turned11.B4 : List Nat := [0, 1, 0, 4, 12, 31, 0, 127]
theorem turned11.tab4 : rtab .any (opsOf Try.f11 4) = turned11.T4 := by kernel_rfl
theorem turned11.bits4 : waitsOk turned11.T4.2 turned11.B4 = true := by kernel_rfl
def turned11.T6 : Bool × List (List Nat × List Nat) := (true, [([], []), ([0], [0]), ([], []), ([1, 2], [1, 2]), ([3], [3]), ([], []), ([4, 5], [4, 5]), ([6], [6]), ([], []), ([8], [8]), ([], []), ([10], [10]), ([9, 11], [9, 11]), ([7, 12], [7, 12]), ([4, 5, 0, 1, 2, 3, 4, 5, 6, 7, 8, 9, 10, 11, 12, 13], [4, 5]), ([14, 13, 0, 1, 2, 3, 4, 5, 6, 7, 8, 9, 10, 11, 12, 13], [13, 14])])
def turned11.B6 : List Nat := [0, 1, 0, 7, 15, 0, 63, 127, 0, 256, 0, 1024, 3840, 8191, 16383, 32767]
theorem turned11.tab6 : rtab .any (opsOf Try.f11 6) = turned11.T6 := by kernel_rfl
theorem turned11.bits6 : waitsOk turned11.T6.2 turned11.B6 = true := by kernel_rfl
def turned11.T14 : Bool × List (List Nat × List Nat) := (true, [([], []), ([], []), ([], []), ([1, 2], [1, 2]), ([3], [3]), ([0, 4], [0, 4]), ([5], [5])])
def turned11.B14 : List Nat := [0, 0, 0, 6, 14, 31, 63]
theorem turned11.tab14 : rtab .any (opsOf Try.f11 14) = turned11.T14 := by kernel_rfl
theorem turned11.bits14 : waitsOk turned11.T14.2 turned11.B14 = true := by kernel_rfl
def turned11.T15 : Bool × List (List Nat × List Nat) := (true, [([], []), ([], []), ([], []), ([1, 2], [1, 2]), ([3], [3]), ([0, 4], [0, 4]), ([5, 5, 0, 1, 2, 3, 4, 5], [5])])
def turned11.B15 : List Nat := [0, 0, 0, 6, 14, 31, 63]
theorem turned11.tab15 : rtab .any (opsOf Try.f11 15) = turned11.T15 := by kernel_rfl
theorem turned11.bits15 : waitsOk turned11.T15.2 turned11.B15 = true := by kernel_rfl
def turned11.T16 : Bool × List (List Nat × List Nat) := (true, [([], []), ([], []), ([], []), ([1, 2], [1, 2]), ([3], [3]), ([4], [4]), ([0, 5, 5], [0, 5]), ([], []), ([6, 7], [6, 7])])
def turned11.B16 : List Nat := [0, 0, 0, 6, 14, 30, 63, 0, 255]
theorem turned11.tab16 : rtab .any (opsOf Try.f11 16) = turned11.T16 := by kernel_rfl
theorem turned11.bits16 : waitsOk turned11.T16.2 turned11.B16 = true := by kernel_rfl
/-- What is read all along: a table, and another one's lines. -/
structure LO (w W : World) (gy : Nat) (den : Int) (A : Option Addr) (c : Nat) (l : List (List Int)) (A1 : Option Addr) (c1 : Nat) (g : List (List Int)) : Prop where
  y : W.heap[gy]? = some (.cells #[.int .i64 den, .slice A l.length c] 39 (0, 0))
  C : Kd.C (Kd.slice 2 (Kd.int .i64)) W A l.length l
  hc : l.length ≤ c
  C1 : Kd.C (Kd.slice 2 (Kd.int .i64)) W A1 g.length g
  hc1 : g.length ≤ c1
  g : Below w.heap.size w W
theorem LO.below {w W W' : World} {gy : Nat} {den : Int} {A : Option Addr} {c : Nat} {l : List (List Int)} {A1 : Option Addr} {c1 : Nat} {g : List (List Int)} (h : LO w W gy den A c l A1 c1 g) (hb : Below W.heap.size W W') : LO w W' gy den A c l A1 c1 g :=
  ⟨blk_below h.y hb, Kd.C_below h.C hb, h.hc, Kd.C_below h.C1 hb, h.hc1, below_then h.g h.g.size hb⟩
theorem LO.init (w : World) (den : Int) (A : Option Addr) (c : Nat) (l : List (List Int)) (A1 : Option Addr) (c1 : Nat) (g : List (List Int)) (hC : Kd.C (Kd.slice 2 (Kd.int .i64)) w A l.length l) (hc : l.length ≤ c) (hC1 : Kd.C (Kd.slice 2 (Kd.int .i64)) w A1 g.length g) (hc1 : g.length ≤ c1) :
    LO w (w.alloc (.cells #[.int .i64 den, .slice A l.length c] 39)) w.heap.size den A c l A1 c1 g :=
  ⟨blk_new _ _, Kd.C_below hC (box1 _ _), hc, Kd.C_below hC1 (box1 _ _), hc1, box1 _ _⟩
/-- What is read in the rounds: also the turned table, and the one with coins added. -/
structure LZ (W : World) (bx m : Nat) (AX : Option Addr) (cX by_ : Nat) (AY : Option Addr) (cY : Nat) (den : Int) (l ly : List (List Int)) : Prop where
  x : W.heap[bx]? = some (.cells #[.int .i64 den, .slice AX m cX] 39 (0, 0))
  z : W.heap[by_]? = some (.cells #[.int .i64 den, .slice AY l.length cY] 39 (0, 0))
  CX : Kd.C (Kd.slice 2 (Kd.int .i64)) W AX (tr m l).length (tr m l)
  hcX : m ≤ cX
  CY : Kd.C (Kd.slice 2 (Kd.int .i64)) W AY ly.length ly
  hcY : l.length ≤ cY
theorem LZ.below {W W' : World} {bx m : Nat} {AX : Option Addr} {cX by_ : Nat} {AY : Option Addr} {cY : Nat} {den : Int} {l ly : List (List Int)} (h : LZ W bx m AX cX by_ AY cY den l ly) (hb : Below W.heap.size W W') : LZ W' bx m AX cX by_ AY cY den l ly :=
  ⟨blk_below h.x hb, blk_below h.z hb, Kd.C_below h.CX hb, h.hcX, Kd.C_below h.CY hb, h.hcY⟩
set_option maxHeartbeats 8000000 in
set_option maxRecDepth 100000 in
theorem turnedW (den : Int) (A : Option Addr) (c : Nat) (l : List (List Int)) (ln cl co : Int) (A1 : Option Addr) (c1 : Nat) (g : List (List Int)) (w : World) (hr : Kd.C (Kd.slice 2 (Kd.int .i64)) w A l.length l) (hc : l.length ≤ c) (h1 : 0 ≤ ln ∧ ln ≤ 255) (h2 : 0 ≤ cl ∧ cl ≤ 255) (h3 : 0 ≤ co ∧ co ≤ 65535) (hr1 : Kd.C (Kd.slice 2 (Kd.int .i64)) w A1 g.length g) (hc1 : g.length ≤ c1) (hlo : ∀ y ∈ g, ∀ v ∈ y, -9223372036854775808 ≤ v) :
    Calls Try.prog 11 #[.agg #[.int .i64 den, .slice A l.length c], .int .u8 ln, .int .u8 cl, .int .u16 co, .slice A1 g.length c1] w fun e w' => e = .returned (.bool true) ∧ Below w.heap.size w w' := by
  obtain ⟨F, hfe, hF⟩ := table_eq den l
  obtain ⟨G, hge⟩ := longT g 1000 (by omega)
  have HQ := Lib.hid (LO.init w den A c l A1 c1 g hr hc hr1 hc1)
  have HFE := Lib.hid hfe
  have HGE := Lib.hid hge
  have HLO := Lib.hid hlo
  clear hfe hge hr hc hr1 hc1 hlo
  go_enter Try.func11, Try.ntmps11
  go_upto_region 1 with (fail)
  generalize w.alloc (.cells #[.int .i64 den, .slice A l.length c] 39) = W0 at *
  obtain ⟨gy, eg0⟩ : ∃ gy, w.heap.size = gy := ⟨_, rfl⟩
  rw [eg0] at HQ ⊢
  have y0 : W0.cell? ⟨gy, 0, none⟩ = some (.int .i64 den) := (blk_cell HQ.out.y 0).trans rfl
  have y1 : W0.cell? ⟨gy, 1, none⟩ = some (.slice A l.length c) := (blk_cell HQ.out.y 1).trans rfl
  cases F with
  | false => as_aux_lemma =>
    go_wp2_with (first
      | (go_at_call 40; refine (forecourtlaw09_table.calls 1000 den A c l false _ HQ.out.C HQ.out.hc HFE.out).mono ?_; rintro e W1 ⟨rfl, hb⟩; have HB := Lib.hid hb; clear hb)
      | (go_at_call 15; refine (works_calls _).mono ?_; rintro e W2 ⟨rfl, hb⟩; have HB2 := Lib.hid hb; clear hb))
    go_ret
    exact ⟨rfl, by rw [← eg0] at *; exact (HQ.out.below HB.out).g.trans (HB2.out.mono (Nat.le_trans HQ.out.g.size HB.out.size))⟩
  | true =>
    cases G with
    | true => as_aux_lemma =>
      go_wp2_with (first
        | (go_at_call 40; refine (forecourtlaw09_table.calls 1000 den A c l true _ HQ.out.C HQ.out.hc HFE.out).mono ?_; rintro e W1 ⟨rfl, hb⟩; have HB := Lib.hid hb; clear hb; replace HQ := Lib.hid (HQ.out.below HB.out))
        | (go_at_call 27; refine (forecourtlaw09_long.calls 1000 A1 c1 g true _ HQ.out.C1 HQ.out.hc1 HGE.out).mono ?_; rintro e W2 ⟨rfl, hb⟩; have HB1 := Lib.hid (drawn_below hb); clear hb)
        | (go_at_call 15; refine (works_calls _).mono ?_; rintro e W3 ⟨rfl, hb⟩; have HB2 := Lib.hid hb; clear hb))
      go_ret
      exact ⟨rfl, by rw [← eg0] at *; have h9 := HQ.out.below HB1.out; exact below_then h9.g h9.g.size HB2.out⟩
    | false =>
      have ht := hF rfl
      have HT := Lib.hid ht
      obtain ⟨am, hs1, hD⟩ := settle_done ht
      have hR : pole_Round.f den l = some (coinsOf den l am, 0) := by
        unfold pole_Round.f pole_CheckTable.f pole_round.f
        rw [Option.bind_some, if_pos ht, if_pos ht, hs1]
        rfl
      have hRE := hD.round ht
      obtain ⟨_, hru, hrl, _⟩ := hD.tab
      generalize coinsOf den l am = r at *
      have HR := Lib.hid hR
      have HRE := Lib.hid hRE
      clear hF ht hs1 hD hR hRE
      have HV := Lib.hid (Valid.of HT.out)
      go_upto_region 3 with (first
        | (go_at_call 40; refine (forecourtlaw09_table.calls 1000 den A c l true _ HQ.out.C HQ.out.hc HFE.out).mono ?_; rintro e W1 ⟨rfl, hb⟩; have HB := Lib.hid hb; clear hb; replace HQ := Lib.hid (HQ.out.below HB.out))
        | (go_at_call 27; refine (forecourtlaw09_long.calls 1000 A1 c1 g false _ HQ.out.C1 HQ.out.hc1 HGE.out).mono ?_; rintro e W2 ⟨rfl, hb⟩; have HB1 := Lib.hid (drawn_below hb); clear hb))
      clear HFE HGE y0 y1 HB
      replace HQ := Lib.hid (HQ.out.below HB1.out)
      clear HB1
      have hn0 := HV.out.n0
      have hn6 := HV.out.n6
      have hm0 := HV.out.m0
      have hm6 := HV.out.m6
      obtain ⟨m, em⟩ : ∃ m, (rd_L2 l 0).length = m := ⟨_, rfl⟩
      have HEM := Lib.hid em
      rw [em] at hm0 hm6
      have HROW := Lib.hid (show ∀ x ∈ l, x.length = m from fun x hx => by rw [← em]; exact HV.out.eq x hx)
      have hd1 := HV.out.d1
      have hd2 := HV.out.d2
      clear em HV
      obtain ⟨Wd3, ed⟩ : ∃ Wd, W2.drew = Wd := ⟨_, rfl⟩
      have HBd := Lib.hid (show Below W2.heap.size W2 Wd3 from by rw [← ed]; exact below_drew (Below.refl _ _))
      replace HQ := Lib.hid (HQ.out.below HBd.out)
      have HS := Lib.hid (fun (W : World) (h : Below Wd3.heap.size Wd3 W) => show W.cell? ⟨gy, 0, none⟩ = some (.int .i64 den) ∧ W.cell? ⟨gy, 1, none⟩ = some (.slice A l.length c) from ⟨(blk_cell (HQ.out.below h).y 0).trans rfl, (blk_cell (HQ.out.below h).y 1).trans rfl⟩)
      have HTU := Lib.hid (fun (W : World) (h : Below Wd3.heap.size Wd3 W) => turned43_calls A c l m W (HQ.out.below h).C HQ.out.hc hn0 (by omega) (by omega) HROW.out)
      refine start_ (n := 8) (S := fun W => W.cell? ⟨gy, 0, none⟩ = some (.int .i64 den) ∧ W.cell? ⟨gy, 1, none⟩ = some (.slice A l.length c)) (ds := [7]) #[false, false, false, false, false, false, false, false] (by kernel_rfl) rfl rfl (by rw [ed]; exact HS.out _ (Below.refl _ _)) (fun hHeld => ?_); refine with_tabW turned11.tab3 turned11.bits3 (fun HT_ HW_ => ?_)
      rw [ed] at hHeld ⊢
      refine pure_ (i := 0) (N := some 29) (v := ?_) (a' := ?_) #[true, false, false, false, false, false, false, false] rfl rfl (any_of HT_.out (by kernel_rfl)) (fun _ _ _ h => h) (Or.inl ⟨by rfl, ?_⟩) ?_ ?_
      rotate_left
      · intro w'
        go_simp
        with_reducible rfl
      rotate_left
      · simp only [Act.put, List.setIfInBounds_toArray, List.set_cons_zero, List.set_cons_succ, i64_w, i32_w]
        rfl
      refine take_ (i := 1) (N := some 30) (v := ?_) (a' := ?_) #[true, true, false, false, false, false, false, false] rfl rfl (take_ofW HT_.out HW_.out (by kernel_rfl)) (fun _ _ _ h => h) (Or.inl ⟨by rfl, ?_⟩) hHeld ?_ ?_
      rotate_left
      · rintro w' ⟨s0, s1⟩
        go_simp
        with_reducible rfl
      rotate_left
      · simp only [Act.put, List.setIfInBounds_toArray, List.set_cons_zero, List.set_cons_succ, i64_w, i32_w]
        rfl
      refine pure_ (i := 2) (N := some 31) (v := ?_) (a' := ?_) #[true, true, true, false, false, false, false, false] rfl rfl (any_of HT_.out (by kernel_rfl)) (fun _ _ _ h => h) (Or.inl ⟨by rfl, ?_⟩) ?_ ?_
      rotate_left
      · intro w'
        go_simp
        with_reducible rfl
      rotate_left
      · simp only [Act.put, List.setIfInBounds_toArray, List.set_cons_zero, List.set_cons_succ, i64_w, i32_w]
        rfl
      refine take_ (i := 3) (N := some 32) (v := ?_) (a' := ?_) #[true, true, true, true, false, false, false, false] rfl rfl (take_ofW HT_.out HW_.out (by kernel_rfl)) (fun _ _ _ h => h) (Or.inl ⟨by rfl, ?_⟩) hHeld ?_ ?_
      rotate_left
      · rintro w' ⟨s0, s1⟩
        go_simp
        with_reducible rfl
      rotate_left
      · simp only [Act.put, List.setIfInBounds_toArray, List.set_cons_zero, List.set_cons_succ, i64_w, i32_w]
        rfl
      refine join_ (σ := Option Addr × Nat × Nat) 1 #[true, true, true, true, true, true, true, false] (fun s_ => [(33, .slice s_.1 m s_.2.1), (34, .agg #[.int .i64 den, .slice s_.1 m s_.2.1]), (11, .pointer (some ⟨s_.2.2, 0, none⟩))])
        (fun s_ w' => Kd.S (Kd.slice 2 (Kd.int .i64)) 48 w' Wd3.heap.size (fun _ => True) (.slice s_.1 m s_.2.1) (tr m l) ∧ m ≤ s_.2.1 ∧ Blk w' s_.2.2 39 #[.int .i64 0, .slice none 0 0] ∧ Wd3.heap.size ≤ s_.2.2 ∧ Below Wd3.heap.size Wd3 w') ?_ ?_
      rotate_left
      · intro hCont
        refine two_ (i := 4) (j := 6) (Ni := some 33) (Nj := some 11) #[true, true, true, true, true, false, false, false] #[true, true, true, true, false, false, true, false] rfl rfl rfl rfl (two_of HT_.out (by kernel_rfl)) (by decide) (by decide) (fun K hK => ?_) (fun K hK => ?_)
        · refine goes_ Try.func43 (by kernel_rfl) rfl #[.slice A l.length c] (by rfl) rfl rfl (by (try simp only [List.map_toArray, List.map_cons, List.map_nil]); first | done | rfl) ?_
          refine (HTU.out _ (Below.refl _ _)).mono ?_
          rintro e W3 ⟨AX, cX, rfl, hS3, hc3, _, hb3⟩
          refine ⟨_, rfl, ?_⟩
          refine hK.out _ _ (HS.out _ hb3) (fun hHeld => ?_)
          clear hK K
          refine norm_ (a' := ?_) ?_ ?_
          rotate_left
          · show Act.put _ (some 33) _ = _
            simp only [Act.put, List.setIfInBounds_toArray, List.set_cons_zero, List.set_cons_succ, i64_w, i32_w]
            rfl
          refine pure_ (i := 5) (N := some 34) (v := ?_) (a' := ?_) #[true, true, true, true, true, true, false, false] rfl rfl (any_of HT_.out (by kernel_rfl)) (fun _ _ _ h => h) (Or.inl ⟨by rfl, ?_⟩) ?_ ?_
          rotate_left
          · intro w'
            go_simp
            with_reducible rfl
          rotate_left
          · simp only [Act.put, List.setIfInBounds_toArray, List.set_cons_zero, List.set_cons_succ, i64_w, i32_w]
            rfl
          refine one_ (i := 6) (N := some 11) #[true, true, true, true, true, true, true, false] rfl rfl (one_of HT_.out (by kernel_rfl)) (by decide) (fun K hK => ?_)
          have hb4 := box1 W3 (.cells #[.int .i64 0, .slice none 0 0] 39)
          refine event_step (by rfl) (w1 := W3.alloc (.cells #[.int .i64 0, .slice none 0 0] 39)) (v := .pointer (some ⟨W3.heap.size, 0, none⟩)) (by go_simp) ?_
          refine hK.out _ _ (HS.out _ (below_then hb3 hb3.size hb4)) (fun hHeld2 => ?_)
          clear hK K
          refine norm_ (a' := ?_) ?_ ?_
          rotate_left
          · show Act.put _ (some 11) _ = _
            simp only [Act.put, List.setIfInBounds_toArray, List.set_cons_zero, List.set_cons_succ, i64_w, i32_w]
            rfl
          exact norm_ (by simp only [putAll, Act.put, List.setIfInBounds_toArray, List.set_cons_zero, List.set_cons_succ]) (hCont (AX, cX, W3.heap.size) _ ⟨Kd.S_below hS3 hb4, hc3, Blk.new W3 _ 39, hb3.size, below_then hb3 hb3.size hb4⟩)
        · have hb3 := box1 Wd3 (.cells #[.int .i64 0, .slice none 0 0] 39)
          refine event_step (by rfl) (w1 := Wd3.alloc (.cells #[.int .i64 0, .slice none 0 0] 39)) (v := .pointer (some ⟨Wd3.heap.size, 0, none⟩)) (by go_simp) ?_
          refine hK.out _ _ (HS.out _ hb3) (fun hHeld => ?_)
          clear hK K
          refine norm_ (a' := ?_) ?_ ?_
          rotate_left
          · show Act.put _ (some 11) _ = _
            simp only [Act.put, List.setIfInBounds_toArray, List.set_cons_zero, List.set_cons_succ, i64_w, i32_w]
            rfl
          refine one_ (i := 4) (N := some 33) #[true, true, true, true, true, false, true, false] rfl rfl (one_of HT_.out (by kernel_rfl)) (by decide) (fun K hK => ?_)
          refine goes_ Try.func43 (by kernel_rfl) rfl #[.slice A l.length c] (by rfl) rfl rfl (by (try simp only [List.map_toArray, List.map_cons, List.map_nil]); first | done | rfl) ?_
          refine (HTU.out _ hb3).mono ?_
          rintro e W3 ⟨AX, cX, rfl, hS3, hc3, _, hb4⟩
          refine ⟨_, rfl, ?_⟩
          have hsa : (Wd3.alloc (.cells #[.int .i64 0, .slice none 0 0] 39)).heap.size = Wd3.heap.size + 1 := by simp
          refine hK.out _ _ (HS.out _ (below_then hb3 hb3.size hb4)) (fun hHeld2 => ?_)
          clear hK K
          refine norm_ (a' := ?_) ?_ ?_
          rotate_left
          · show Act.put _ (some 33) _ = _
            simp only [Act.put, List.setIfInBounds_toArray, List.set_cons_zero, List.set_cons_succ, i64_w, i32_w]
            rfl
          refine pure_ (i := 5) (N := some 34) (v := ?_) (a' := ?_) #[true, true, true, true, true, true, true, false] rfl rfl (any_of HT_.out (by kernel_rfl)) (fun _ _ _ h => h) (Or.inl ⟨by rfl, ?_⟩) ?_ ?_
          rotate_left
          · intro w'
            go_simp
            with_reducible rfl
          rotate_left
          · simp only [Act.put, List.setIfInBounds_toArray, List.set_cons_zero, List.set_cons_succ, i64_w, i32_w]
            rfl
          exact norm_ (by simp only [putAll, Act.put, List.setIfInBounds_toArray, List.set_cons_zero, List.set_cons_succ]) (hCont (AX, cX, Wd3.heap.size) _ ⟨Kd.S_lower hS3 (by omega), hc3, (Blk.new Wd3 #[.int .i64 0, .slice none 0 0] 39).below hb4 (by omega), Nat.le_refl _, below_then hb3 hb3.size hb4⟩)
      rintro ⟨AX, cX, bx⟩ W3 ⟨hS3, hcX, hbx, hle, hb3⟩
      replace hS3 : Kd.S (Kd.slice 2 (Kd.int .i64)) 48 W3 Wd3.heap.size (fun _ => True) (.slice AX m cX) (tr m l) := hS3
      replace hbx : Blk W3 bx 39 #[.int .i64 0, .slice none 0 0] := hbx
      replace hle : Wd3.heap.size ≤ bx := hle
      refine norm_ (a' := ?_) ?_ ?_
      rotate_left
      · simp only [putAll, Act.put, List.setIfInBounds_toArray, List.set_cons_zero, List.set_cons_succ]
        rfl
      have z0 : W3.cell? ⟨bx, 0, none⟩ = some (.int .i64 0) := hbx.cell 0
      have z1 : W3.cell? ⟨bx, 1, none⟩ = some (.slice none 0 0) := hbx.cell 1
      have f0 := hbx.fz 0
      have f1 := hbx.fz 1
      refine last_ (i := 7) (N := none) #[true, true, true, true, true, true, true, true] rfl rfl (one_of HT_.out (by kernel_rfl)) (by decide) (fun K hK => ?_)
      refine skip_ (w1 := (W3.setCell ⟨bx, 0, none⟩ (.int .i64 den)).setCell ⟨bx, 1, none⟩ (.slice AX m cX)) (by rfl) rfl ?_ ?_
      · go_simp
      refine hK.out _ _ ?_
      clear hK K
      refine done_ (done_of HT_.out (by kernel_rfl)) ?_
      have hg12 := (grown_set W3 bx 0 (.int .i64 den)).trans (grown_set (W3.setCell ⟨bx, 0, none⟩ (.int .i64 den)) bx 1 (.slice AX m cX))
      have hB1 := hbx.set 0 (.int .i64 den)
      have HBB := Lib.hid (show Blk ((W3.setCell ⟨bx, 0, none⟩ (.int .i64 den)).setCell ⟨bx, 1, none⟩ (.slice AX m cX)) bx 39 #[.int .i64 den, .slice AX m cX] by
        have h1 := hB1.set 1 (.slice AX m cX)
        simpa using h1)
      have hty : ∀ q, q ∈ 48 :: (Kd.slice 2 (Kd.int .i64)).E → q ≠ 39 := by intro q hq; simp [Kd.slice, Kd.int, Kd.scalar] at hq; omega
      have HXC := Lib.hid (Rd.of (Kd.S_R (S_other (S_other hS3 hbx hty 0 (.int .i64 den)) hB1 hty 1 (.slice AX m cX))))
      have HB4 := Lib.hid (below_grown hb3 hg12 (fun r e => by injection e with e; omega))
      clear hHeld HT_ HW_ z0 z1 f0 f1 hg12 ed hbx hb3 hle hB1 HS HTU HBd hS3 hty hcX
      have HXB := HBB
      replace HQ := Lib.hid (HQ.out.below HB4.out)
      clear HB4 HBB
      generalize (W3.setCell ⟨bx, 0, none⟩ (.int .i64 den)).setCell ⟨bx, 1, none⟩ (.slice AX m cX) = W4 at *
      go_upto_region 4 with (fail)
      obtain ⟨Wd4, ed⟩ : ∃ Wd, W4.drew = Wd := ⟨_, rfl⟩
      have HBd := Lib.hid (show Below W4.heap.size W4 Wd4 from by rw [← ed]; exact below_drew (Below.refl _ _))
      replace HQ := Lib.hid (HQ.out.below HBd.out)
      replace HXB := Lib.hid (blk_below HXB.out HBd.out)
      replace HXC := Lib.hid (HXC.out.below HBd.out)
      have HS := Lib.hid (fun (W : World) (h : Below Wd4.heap.size Wd4 W) => show W.cell? ⟨gy, 0, none⟩ = some (.int .i64 den) ∧ W.cell? ⟨gy, 1, none⟩ = some (.slice A l.length c) from ⟨(blk_cell (HQ.out.below h).y 0).trans rfl, (blk_cell (HQ.out.below h).y 1).trans rfl⟩)
      have HTC := Lib.hid (fun (W : World) (h : Below Wd4.heap.size Wd4 W) => copied44_calls A c l W (HQ.out.below h).C (by omega) (fun x hx => by have := HROW.out x hx; omega))
      refine start_ (n := 8) (S := fun W => W.cell? ⟨gy, 0, none⟩ = some (.int .i64 den) ∧ W.cell? ⟨gy, 1, none⟩ = some (.slice A l.length c)) (ds := [7]) #[false, false, false, false, false, false, false, false] (by kernel_rfl) rfl rfl (by rw [ed]; exact HS.out _ (Below.refl _ _)) (fun hHeld => ?_); refine with_tabW turned11.tab4 turned11.bits4 (fun HT_ HW_ => ?_)
      rw [ed] at hHeld ⊢
      refine pure_ (i := 0) (N := some 35) (v := ?_) (a' := ?_) #[true, false, false, false, false, false, false, false] rfl rfl (any_of HT_.out (by kernel_rfl)) (fun _ _ _ h => h) (Or.inl ⟨by rfl, ?_⟩) ?_ ?_
      rotate_left
      · intro w'
        go_simp
        with_reducible rfl
      rotate_left
      · simp only [Act.put, List.setIfInBounds_toArray, List.set_cons_zero, List.set_cons_succ, i64_w, i32_w]
        rfl
      refine take_ (i := 1) (N := some 36) (v := ?_) (a' := ?_) #[true, true, false, false, false, false, false, false] rfl rfl (take_ofW HT_.out HW_.out (by kernel_rfl)) (fun _ _ _ h => h) (Or.inl ⟨by rfl, ?_⟩) hHeld ?_ ?_
      rotate_left
      · rintro w' ⟨s0, s1⟩
        go_simp
        with_reducible rfl
      rotate_left
      · simp only [Act.put, List.setIfInBounds_toArray, List.set_cons_zero, List.set_cons_succ, i64_w, i32_w]
        rfl
      refine pure_ (i := 2) (N := some 37) (v := ?_) (a' := ?_) #[true, true, true, false, false, false, false, false] rfl rfl (any_of HT_.out (by kernel_rfl)) (fun _ _ _ h => h) (Or.inl ⟨by rfl, ?_⟩) ?_ ?_
      rotate_left
      · intro w'
        go_simp
        with_reducible rfl
      rotate_left
      · simp only [Act.put, List.setIfInBounds_toArray, List.set_cons_zero, List.set_cons_succ, i64_w, i32_w]
        rfl
      refine take_ (i := 3) (N := some 38) (v := ?_) (a' := ?_) #[true, true, true, true, false, false, false, false] rfl rfl (take_ofW HT_.out HW_.out (by kernel_rfl)) (fun _ _ _ h => h) (Or.inl ⟨by rfl, ?_⟩) hHeld ?_ ?_
      rotate_left
      · rintro w' ⟨s0, s1⟩
        go_simp
        with_reducible rfl
      rotate_left
      · simp only [Act.put, List.setIfInBounds_toArray, List.set_cons_zero, List.set_cons_succ, i64_w, i32_w]
        rfl
      refine join_ (σ := Option Addr × Nat × Nat × List Ln) 1 #[true, true, true, true, true, true, true, false] (fun s_ => [(39, .slice s_.1 l.length s_.2.1), (40, .agg #[.int .i64 den, .slice s_.1 l.length s_.2.1]), (12, .pointer (some ⟨s_.2.2.1, 0, none⟩))])
        (fun s_ w' => lines s_.2.2.2 = l ∧ Grid w' Wd4.heap.size (.slice s_.1 l.length s_.2.1) s_.2.2.2 ∧ Blk w' s_.2.2.1 39 #[.int .i64 0, .slice none 0 0] ∧ Wd4.heap.size ≤ s_.2.2.1 ∧ ((∀ r ∈ s_.2.2.2, r.b ≠ s_.2.2.1) ∧ ∀ k, (Value.slice s_.1 l.length s_.2.1).ownBlock = some k → k ≠ s_.2.2.1) ∧ Below Wd4.heap.size Wd4 w') ?_ ?_
      rotate_left
      · intro hCont
        refine two_ (i := 4) (j := 6) (Ni := some 39) (Nj := some 12) #[true, true, true, true, true, false, false, false] #[true, true, true, true, false, false, true, false] rfl rfl rfl rfl (two_of HT_.out (by kernel_rfl)) (by decide) (by decide) (fun K hK => ?_) (fun K hK => ?_)
        · refine goes_ Try.func44 (by kernel_rfl) rfl #[.slice A l.length c] (by rfl) rfl rfl (by (try simp only [List.map_toArray, List.map_cons, List.map_nil]); first | done | rfl) ?_
          refine (HTC.out _ (Below.refl _ _)).mono ?_
          rintro e W3 ⟨AY, cY, rs, rfl, hl3, hg3, hb3⟩
          refine ⟨_, rfl, ?_⟩
          refine hK.out _ _ (HS.out _ hb3) (fun hHeld => ?_)
          clear hK K
          refine norm_ (a' := ?_) ?_ ?_
          rotate_left
          · show Act.put _ (some 39) _ = _
            simp only [Act.put, List.setIfInBounds_toArray, List.set_cons_zero, List.set_cons_succ, i64_w, i32_w]
            rfl
          refine pure_ (i := 5) (N := some 40) (v := ?_) (a' := ?_) #[true, true, true, true, true, true, false, false] rfl rfl (any_of HT_.out (by kernel_rfl)) (fun _ _ _ h => h) (Or.inl ⟨by rfl, ?_⟩) ?_ ?_
          rotate_left
          · intro w'
            go_simp
            with_reducible rfl
          rotate_left
          · simp only [Act.put, List.setIfInBounds_toArray, List.set_cons_zero, List.set_cons_succ, i64_w, i32_w]
            rfl
          refine one_ (i := 6) (N := some 12) #[true, true, true, true, true, true, true, false] rfl rfl (one_of HT_.out (by kernel_rfl)) (by decide) (fun K hK => ?_)
          have hb4 := box1 W3 (.cells #[.int .i64 0, .slice none 0 0] 39)
          refine event_step (by rfl) (w1 := W3.alloc (.cells #[.int .i64 0, .slice none 0 0] 39)) (v := .pointer (some ⟨W3.heap.size, 0, none⟩)) (by go_simp) ?_
          refine hK.out _ _ (HS.out _ (below_then hb3 hb3.size hb4)) (fun hHeld2 => ?_)
          clear hK K
          refine norm_ (a' := ?_) ?_ ?_
          rotate_left
          · show Act.put _ (some 12) _ = _
            simp only [Act.put, List.setIfInBounds_toArray, List.set_cons_zero, List.set_cons_succ, i64_w, i32_w]
            rfl
          exact norm_ (by simp only [putAll, Act.put, List.setIfInBounds_toArray, List.set_cons_zero, List.set_cons_succ]) (hCont (AY, cY, W3.heap.size, rs) _ ⟨hl3, hg3.below hb4, Blk.new W3 _ 39, hb3.size, ⟨fun r hr => by have := hg3.lt r hr; show r.b ≠ W3.heap.size; omega, fun k hk => by have := own_lt hg3.own k hk; show k ≠ W3.heap.size; omega⟩, below_then hb3 hb3.size hb4⟩)
        · have hb3 := box1 Wd4 (.cells #[.int .i64 0, .slice none 0 0] 39)
          refine event_step (by rfl) (w1 := Wd4.alloc (.cells #[.int .i64 0, .slice none 0 0] 39)) (v := .pointer (some ⟨Wd4.heap.size, 0, none⟩)) (by go_simp) ?_
          refine hK.out _ _ (HS.out _ hb3) (fun hHeld => ?_)
          clear hK K
          refine norm_ (a' := ?_) ?_ ?_
          rotate_left
          · show Act.put _ (some 12) _ = _
            simp only [Act.put, List.setIfInBounds_toArray, List.set_cons_zero, List.set_cons_succ, i64_w, i32_w]
            rfl
          refine one_ (i := 4) (N := some 39) #[true, true, true, true, true, false, true, false] rfl rfl (one_of HT_.out (by kernel_rfl)) (by decide) (fun K hK => ?_)
          refine goes_ Try.func44 (by kernel_rfl) rfl #[.slice A l.length c] (by rfl) rfl rfl (by (try simp only [List.map_toArray, List.map_cons, List.map_nil]); first | done | rfl) ?_
          refine (HTC.out _ hb3).mono ?_
          rintro e W3 ⟨AY, cY, rs, rfl, hl3, hg3, hb4⟩
          refine ⟨_, rfl, ?_⟩
          have hsa : (Wd4.alloc (.cells #[.int .i64 0, .slice none 0 0] 39)).heap.size = Wd4.heap.size + 1 := by simp
          refine hK.out _ _ (HS.out _ (below_then hb3 hb3.size hb4)) (fun hHeld2 => ?_)
          clear hK K
          refine norm_ (a' := ?_) ?_ ?_
          rotate_left
          · show Act.put _ (some 39) _ = _
            simp only [Act.put, List.setIfInBounds_toArray, List.set_cons_zero, List.set_cons_succ, i64_w, i32_w]
            rfl
          refine pure_ (i := 5) (N := some 40) (v := ?_) (a' := ?_) #[true, true, true, true, true, true, true, false] rfl rfl (any_of HT_.out (by kernel_rfl)) (fun _ _ _ h => h) (Or.inl ⟨by rfl, ?_⟩) ?_ ?_
          rotate_left
          · intro w'
            go_simp
            with_reducible rfl
          rotate_left
          · simp only [Act.put, List.setIfInBounds_toArray, List.set_cons_zero, List.set_cons_succ, i64_w, i32_w]
            rfl
          exact norm_ (by simp only [putAll, Act.put, List.setIfInBounds_toArray, List.set_cons_zero, List.set_cons_succ]) (hCont (AY, cY, Wd4.heap.size, rs) _ ⟨hl3, hg3.lower (by omega), (Blk.new Wd4 #[.int .i64 0, .slice none 0 0] 39).below hb4 (by omega), Nat.le_refl _, ⟨fun r hr => by have := (hg3.rows r hr).1; show r.b ≠ Wd4.heap.size; omega, fun k hk => by have := own_base hg3.own k hk; show k ≠ Wd4.heap.size; omega⟩, below_then hb3 hb3.size hb4⟩)
      rintro ⟨AY, cY, bY, rs⟩ W3 ⟨hl3, hg3, hbx, hle, hne, hb3⟩
      replace hl3 : lines rs = l := hl3
      replace hg3 : Grid W3 Wd4.heap.size (.slice AY l.length cY) rs := hg3
      replace hne : (∀ r ∈ rs, r.b ≠ bY) ∧ ∀ k, (Value.slice AY l.length cY).ownBlock = some k → k ≠ bY := hne
      replace hbx : Blk W3 bY 39 #[.int .i64 0, .slice none 0 0] := hbx
      replace hle : Wd4.heap.size ≤ bY := hle
      refine norm_ (a' := ?_) ?_ ?_
      rotate_left
      · simp only [putAll, Act.put, List.setIfInBounds_toArray, List.set_cons_zero, List.set_cons_succ]
        rfl
      have z0 : W3.cell? ⟨bY, 0, none⟩ = some (.int .i64 0) := hbx.cell 0
      have z1 : W3.cell? ⟨bY, 1, none⟩ = some (.slice none 0 0) := hbx.cell 1
      have f0 := hbx.fz 0
      have f1 := hbx.fz 1
      refine last_ (i := 7) (N := none) #[true, true, true, true, true, true, true, true] rfl rfl (one_of HT_.out (by kernel_rfl)) (by decide) (fun K hK => ?_)
      refine skip_ (w1 := (W3.setCell ⟨bY, 0, none⟩ (.int .i64 den)).setCell ⟨bY, 1, none⟩ (.slice AY l.length cY)) (by rfl) rfl ?_ ?_
      · go_simp
      refine hK.out _ _ ?_
      clear hK K
      refine done_ (done_of HT_.out (by kernel_rfl)) ?_
      have hg12 := (grown_set W3 bY 0 (.int .i64 den)).trans (grown_set (W3.setCell ⟨bY, 0, none⟩ (.int .i64 den)) bY 1 (.slice AY l.length cY))
      have hB1 := hbx.set 0 (.int .i64 den)
      have HBB := Lib.hid (show Blk ((W3.setCell ⟨bY, 0, none⟩ (.int .i64 den)).setCell ⟨bY, 1, none⟩ (.slice AY l.length cY)) bY 39 #[.int .i64 den, .slice AY l.length cY] by
        have h1 := hB1.set 1 (.slice AY l.length cY)
        simpa using h1)
      have HG := Lib.hid (hg3.kept hg12 (fun k hk e => hne.2 k hk (by injection e)) (fun r hr e => hne.1 r hr (by injection e)))
      have HNE := Lib.hid hne
      have HLI := Lib.hid hl3
      have HB4 := Lib.hid (below_grown hb3 hg12 (fun r e => by injection e with e; omega))
      clear hHeld HT_ HW_ z0 z1 f0 f1 hg12 ed hbx hb3 hle hB1 HS HTC HBd hl3 hg3 hne
      have HQ4 := HQ
      replace HQ := Lib.hid (HQ.out.below HB4.out)
      have HYB := HBB
      clear HBB
      generalize (W3.setCell ⟨bY, 0, none⟩ (.int .i64 den)).setCell ⟨bY, 1, none⟩ (.slice AY l.length cY) = W5 at *
      obtain ⟨ad, A0, d0, eA, hc0, _⟩ := row0 HQ.out.C hn0
      subst eA
      rw [HEM.out] at hc0
      have y0 : W5.cell? ⟨gy, 0, none⟩ = some (.int .i64 den) := (blk_cell HQ.out.y 0).trans rfl
      have y1 : W5.cell? ⟨gy, 1, none⟩ = some (.slice (some ad) l.length c) := (blk_cell HQ.out.y 1).trans rfl
      have z1 : ((l.length : Int) == 0) = false := beq_eq_false_iff_ne.mpr (by omega)
      have z2 : ((m : Int) == 0) = false := beq_eq_false_iff_ne.mpr (by omega)
      have z3 : ¬ (l.length : Int) = 0 := by omega
      have z4 : ¬ (m : Int) = 0 := by omega
      have z5 : (0 : Int) < (l.length : Int) := by omega
      go_upto_region 5 with (fail)
      go_quiet (fail)
      have hbq := drawn_below (W := W5) (W' := W5.drewN nq) ⟨nq, rfl⟩
      have HB := Lib.hid hbq
      clear z1 z2 z3 z4 z5 hc0 y0 y1
      replace HQ := Lib.hid (HQ.out.below HB.out)
      replace HB4 := Lib.hid (below_then HB4.out HB4.out.size HB.out)
      replace HG := Lib.hid (HG.out.below HB.out)
      replace HYB := Lib.hid (HYB.out.below HB.out HYB.out.lt)
      clear HB hbq
      generalize W5.drewN nq = W6 at *
      obtain ⟨i, hi⟩ : ∃ i : Nat, ln % (l.length : Int) = (i : Int) := ⟨(ln % (l.length : Int)).toNat, by have := Int.emod_nonneg ln (show (l.length : Int) ≠ 0 by omega); omega⟩
      have hi1 : i < l.length := by have := Int.emod_lt_of_pos ln (show 0 < (l.length : Int) by omega); omega
      obtain ⟨k, hk⟩ : ∃ k : Nat, cl % (m : Int) = (k : Int) := ⟨(cl % (m : Int)).toNat, by have := Int.emod_nonneg cl (show (m : Int) ≠ 0 by omega); omega⟩
      have hk1 : k < m := by have := Int.emod_lt_of_pos cl (show 0 < (m : Int) by omega); omega
      rw [hi, hk]
      clear hi hk h1 h2 nq
      go_upto_region 6 with (fail)
      obtain ⟨Wd6, ed⟩ : ∃ Wd, W6.drew = Wd := ⟨_, rfl⟩
      have HBd := Lib.hid (show Below W6.heap.size W6 Wd6 from by rw [← ed]; exact below_drew (Below.refl _ _))
      replace HQ := Lib.hid (HQ.out.below HBd.out)
      replace HB4 := Lib.hid (below_then HB4.out HB4.out.size HBd.out)
      replace HG := Lib.hid (HG.out.below HBd.out)
      replace HYB := Lib.hid (HYB.out.below HBd.out HYB.out.lt)
      clear HBd
      have hrl : rs.length = l.length := by rw [← lines_len, HLI.out]
      have hirs : i < rs.length := by omega
      have hri : rs[i].l = l.getD i [] := by
        rw [← HLI.out]
        simp [lines, List.getD, hirs]
      have hrm : rs[i].l.length = m := by
        rw [hri]
        exact HROW.out _ (by simp [List.getD, hi1])
      obtain ⟨gA, eY, e12, hgA, hco⟩ := HG.out.cell i hirs
      clear e12
      subst eY
      have hmi : rs[i] ∈ rs := List.getElem_mem hirs
      have hrow := (HG.out.rows rs[i] hmi).2.1
      have hci := hrow.cell k (by omega)
      have hfz := hrow.fz k
      have hvv : rs[i].l[k]'(by omega) = (l.getD i []).getD k 0 := by
        have : (l.getD i []).getD k 0 = rs[i].l.getD k 0 := by rw [hri]
        rw [this]
        simp [List.getD, show k < rs[i].l.length by omega]
      rw [hvv] at hci
      have hcl := cell_rng (tableE_upto HT.out) (by omega) i k
      obtain ⟨v, hv⟩ : ∃ v, (l.getD i []).getD k 0 = v := ⟨_, rfl⟩
      rw [hv] at hcl hci
      have hcd : 0 ≤ co * den ∧ co * den ≤ 65535000 := ⟨Int.mul_nonneg h3.1 (by omega), by
        have := Int.mul_le_mul h3.2 hd2 (by omega) (by omega)
        omega⟩
      have w1 : wrap64 (co * den) = co * den := by rw [wrap_id _ (by omega) (by omega)]
      have w0 : wrap64 co = co := by rw [wrap_id _ (by omega) (by omega)]
      have w2 : wrap64 (v + co * den) = v + co * den := by rw [wrap_id _ (by omega) (by omega)]
      have hset := HG.out.set i k hirs (by omega) (v + co * den)
      have hly : lines (rs.set i ⟨rs[i].b, rs[i].c, rs[i].l.set k (v + co * den)⟩) = addC l i k (co * den) := by
        rw [lines_set rs i k hirs, HLI.out, ← hv]
        rfl
      have hcy := hset.C
      rw [hly] at hcy
      have HSET := Lib.hid hcy
      clear hset hly hcy
      have hgs := grown_set Wd6 rs[i].b k (.int .i64 (v + co * den))
      have hb6 := (HG.out.rows rs[i] hmi).1
      have hne6 := HNE.out.1 rs[i] hmi
      obtain ⟨_, _, e9, _, _, hcY⟩ := HG.out.form (by omega)
      injection e9 with e9 e11 e10
      subst e10
      clear e11 e9
      rw [hrl] at hcY
      have hRv : rs[i].v = .slice (some ⟨rs[i].b, 0, none⟩) m rs[i].c := by
        show Value.slice _ _ _ = _
        rw [hrm]
      rw [hRv] at hco
      clear hrow hri hRv hvv
      generalize rs[i].b = rb at *
      generalize rs[i].c = rc at *
      have hi3 : (i : Int) < (l.length : Int) := by omega
      have hk3 : (k : Int) < (m : Int) := by omega
      have q0 : Wd6.cell? ⟨bY, 1, none⟩ = some (.slice (some ⟨gA, 0, none⟩) l.length cY) := HYB.out.cell 1
      have q3 : Wd6.cell? ⟨gy, 0, none⟩ = some (.int .i64 den) := (blk_cell HQ.out.y 0).trans rfl
      have HB6 := Lib.hid (And.intro hb6 hne6)
      have HGS := Lib.hid hgs
      have HCY := Lib.hid hcY
      have HV := Lib.hid (And.intro hv hcl)
      clear hb6 hne6 hgs hcY hv hcl hcd hrm hrl hmi hirs hgA hm0 hm6 hn0 hn6
      refine start_ (n := 16) (S := fun w' => w'.cell? ⟨bY, 1, none⟩ = some (.slice (some ⟨gA, 0, none⟩) l.length cY) ∧ w'.cell? ⟨gA, i, none⟩ = some (.slice (some ⟨rb, 0, none⟩) m rc) ∧ w'.cell? ⟨rb, k, none⟩ = some (.int .i64 v) ∧ w'.cell? ⟨gy, 0, none⟩ = some (.int .i64 den)) (ds := [15]) #[false, false, false, false, false, false, false, false, false, false, false, false, false, false, false, false] (by kernel_rfl) rfl rfl (by rw [ed]; exact ⟨q0, hco, hci, q3⟩) (fun hHeld => ?_); refine with_tabW turned11.tab6 turned11.bits6 (fun HT_ HW_ => ?_)
      rw [ed] at hHeld ⊢
      refine pure_ (i := 0) (N := some 55) (v := ?_) (a' := ?_) #[true, false, false, false, false, false, false, false, false, false, false, false, false, false, false, false] rfl rfl (any_of HT_.out (by kernel_rfl)) (fun _ _ _ h => h) (Or.inl ⟨by rfl, ?_⟩) ?_ ?_
      rotate_left
      · intro w'
        go_simp
        with_reducible rfl
      rotate_left
      · simp only [Act.put, List.setIfInBounds_toArray, List.set_cons_zero, List.set_cons_succ, i64_w, i32_w]
        rfl
      refine take_ (i := 1) (N := some 56) (v := ?_) (a' := ?_) #[true, true, false, false, false, false, false, false, false, false, false, false, false, false, false, false] rfl rfl (take_ofW HT_.out HW_.out (by kernel_rfl)) (fun _ _ _ h => h) (Or.inl ⟨by rfl, ?_⟩) hHeld ?_ ?_
      rotate_left
      · rintro w' ⟨s0, s1, s2, s3⟩
        go_simp
        with_reducible rfl
      rotate_left
      · simp only [Act.put, List.setIfInBounds_toArray, List.set_cons_zero, List.set_cons_succ, i64_w, i32_w]
        rfl
      refine pure_ (i := 2) (N := some 57) (v := ?_) (a' := ?_) #[true, true, true, false, false, false, false, false, false, false, false, false, false, false, false, false] rfl rfl (any_of HT_.out (by kernel_rfl)) (fun _ _ _ h => h) (Or.inl ⟨by rfl, ?_⟩) ?_ ?_
      rotate_left
      · intro w'
        go_simp
        with_reducible rfl
      rotate_left
      · simp only [Act.put, List.setIfInBounds_toArray, List.set_cons_zero, List.set_cons_succ, i64_w, i32_w]
        rfl
      refine pure_ (i := 3) (N := some 58) (v := ?_) (a' := ?_) #[true, true, true, true, false, false, false, false, false, false, false, false, false, false, false, false] rfl rfl (any_of HT_.out (by kernel_rfl)) (fun _ _ _ h => h) (Or.inl ⟨by rfl, ?_⟩) ?_ ?_
      rotate_left
      · intro w'
        go_simp
        with_reducible rfl
      rotate_left
      · simp only [Act.put, List.setIfInBounds_toArray, List.set_cons_zero, List.set_cons_succ, i64_w, i32_w]
        rfl
      refine take_ (i := 4) (N := some 59) (v := ?_) (a' := ?_) #[true, true, true, true, true, false, false, false, false, false, false, false, false, false, false, false] rfl rfl (take_ofW HT_.out HW_.out (by kernel_rfl)) (fun _ _ _ h => h) (Or.inl ⟨by rfl, ?_⟩) hHeld ?_ ?_
      rotate_left
      · rintro w' ⟨s0, s1, s2, s3⟩
        go_simp
        with_reducible rfl
      rotate_left
      · simp only [Act.put, List.setIfInBounds_toArray, List.set_cons_zero, List.set_cons_succ, i64_w, i32_w]
        rfl
      refine pure_ (i := 5) (N := some 60) (v := ?_) (a' := ?_) #[true, true, true, true, true, true, false, false, false, false, false, false, false, false, false, false] rfl rfl (any_of HT_.out (by kernel_rfl)) (fun _ _ _ h => h) (Or.inl ⟨by rfl, ?_⟩) ?_ ?_
      rotate_left
      · intro w'
        go_simp
        with_reducible rfl
      rotate_left
      · simp only [Act.put, List.setIfInBounds_toArray, List.set_cons_zero, List.set_cons_succ, i64_w, i32_w]
        rfl
      refine pure_ (i := 6) (N := some 61) (v := ?_) (a' := ?_) #[true, true, true, true, true, true, true, false, false, false, false, false, false, false, false, false] rfl rfl (any_of HT_.out (by kernel_rfl)) (fun _ _ _ h => h) (Or.inl ⟨by rfl, ?_⟩) ?_ ?_
      rotate_left
      · intro w'
        go_simp
        with_reducible rfl
      rotate_left
      · simp only [Act.put, List.setIfInBounds_toArray, List.set_cons_zero, List.set_cons_succ, i64_w, i32_w]
        rfl
      refine take_ (i := 7) (N := some 62) (v := ?_) (a' := ?_) #[true, true, true, true, true, true, true, true, false, false, false, false, false, false, false, false] rfl rfl (take_ofW HT_.out HW_.out (by kernel_rfl)) (fun _ _ _ h => h) (Or.inl ⟨by rfl, ?_⟩) hHeld ?_ ?_
      rotate_left
      · rintro w' ⟨s0, s1, s2, s3⟩
        go_simp
        with_reducible rfl
      rotate_left
      · simp only [Act.put, List.setIfInBounds_toArray, List.set_cons_zero, List.set_cons_succ, i64_w, i32_w]
        rfl
      refine pure_ (i := 8) (N := some 63) (v := ?_) (a' := ?_) #[true, true, true, true, true, true, true, true, true, false, false, false, false, false, false, false] rfl rfl (any_of HT_.out (by kernel_rfl)) (fun _ _ _ h => h) (Or.inl ⟨by rfl, ?_⟩) ?_ ?_
      rotate_left
      · intro w'
        go_simp
        with_reducible rfl
      rotate_left
      · simp only [Act.put, List.setIfInBounds_toArray, List.set_cons_zero, List.set_cons_succ, i64_w, i32_w]
        rfl
      refine pure_ (i := 9) (N := some 64) (v := ?_) (a' := ?_) #[true, true, true, true, true, true, true, true, true, true, false, false, false, false, false, false] rfl rfl (any_of HT_.out (by kernel_rfl)) (fun _ _ _ h => h) (Or.inl ⟨by rfl, ?_⟩) ?_ ?_
      rotate_left
      · intro w'
        go_simp
        with_reducible rfl
      rotate_left
      · simp only [Act.put, List.setIfInBounds_toArray, List.set_cons_zero, List.set_cons_succ, i64_w, i32_w]
        rfl
      refine pure_ (i := 10) (N := some 65) (v := ?_) (a' := ?_) #[true, true, true, true, true, true, true, true, true, true, true, false, false, false, false, false] rfl rfl (any_of HT_.out (by kernel_rfl)) (fun _ _ _ h => h) (Or.inl ⟨by rfl, ?_⟩) ?_ ?_
      rotate_left
      · intro w'
        go_simp
        with_reducible rfl
      rotate_left
      · simp only [Act.put, List.setIfInBounds_toArray, List.set_cons_zero, List.set_cons_succ, i64_w, i32_w]
        rfl
      refine take_ (i := 11) (N := some 66) (v := ?_) (a' := ?_) #[true, true, true, true, true, true, true, true, true, true, true, true, false, false, false, false] rfl rfl (take_ofW HT_.out HW_.out (by kernel_rfl)) (fun _ _ _ h => h) (Or.inl ⟨by rfl, ?_⟩) hHeld ?_ ?_
      rotate_left
      · rintro w' ⟨s0, s1, s2, s3⟩
        go_simp
        with_reducible rfl
      rotate_left
      · simp only [Act.put, List.setIfInBounds_toArray, List.set_cons_zero, List.set_cons_succ, i64_w, i32_w]
        rfl
      refine pure_ (i := 12) (N := some 67) (v := ?_) (a' := ?_) #[true, true, true, true, true, true, true, true, true, true, true, true, true, false, false, false] rfl rfl (any_of HT_.out (by kernel_rfl)) (fun _ _ _ h => h) (Or.inl ⟨by rfl, ?_⟩) ?_ ?_
      rotate_left
      · intro w'
        go_simp
        with_reducible rfl
      rotate_left
      · simp only [Act.put, List.setIfInBounds_toArray, List.set_cons_zero, List.set_cons_succ, i64_w, i32_w]
        rfl
      refine pure_ (i := 13) (N := some 68) (v := ?_) (a' := ?_) #[true, true, true, true, true, true, true, true, true, true, true, true, true, true, false, false] rfl rfl (any_of HT_.out (by kernel_rfl)) (fun _ _ _ h => h) (Or.inl ⟨by rfl, ?_⟩) ?_ ?_
      rotate_left
      · intro w'
        go_simp
        with_reducible rfl
      rotate_left
      · simp only [Act.put, List.setIfInBounds_toArray, List.set_cons_zero, List.set_cons_succ, i64_w, i32_w]
        rfl
      refine pure_ (i := 14) (N := some 69) (v := ?_) (a' := ?_) #[true, true, true, true, true, true, true, true, true, true, true, true, true, true, true, false] rfl rfl (any_of HT_.out (by kernel_rfl)) (fun _ _ _ h => h) (Or.inl ⟨by rfl, ?_⟩) ?_ ?_
      rotate_left
      · intro w'
        go_simp
        with_reducible rfl
      rotate_left
      · simp only [Act.put, List.setIfInBounds_toArray, List.set_cons_zero, List.set_cons_succ, i64_w, i32_w]
        rfl
      refine last_ (i := 15) (N := none) #[true, true, true, true, true, true, true, true, true, true, true, true, true, true, true, true] rfl rfl (one_of HT_.out (by kernel_rfl)) (by decide) (fun K hK => ?_)
      refine skip_ (w1 := Wd6.setCell ⟨rb, k, none⟩ (.int .i64 (v + co * den))) (by rfl) rfl ?_ ?_
      · go_simp
      refine hK.out _ _ ?_
      clear hK K
      refine done_ (done_of HT_.out (by kernel_rfl)) ?_
      have HB9 := Lib.hid (below_grown HB4.out HGS.out (fun r e => by injection e with e; have := HB6.out.1; omega))
      replace HQ := Lib.hid (HQ4.out.below HB9.out)
      have HLZ := Lib.hid (show LZ (Wd6.setCell ⟨rb, k, none⟩ (.int .i64 (v + co * den))) bx m AX cX bY (some ⟨gA, 0, none⟩) cY den l (addC l i k (co * den)) from
        ⟨blk_below HXB.out HB9.out, (HGS.out.block bY HYB.out.lt (fun e => by injection e with e; exact HB6.out.2 e.symm)).trans HYB.out, (HXC.out.below HB9.out).C, HXC.out.hc, HSET.out, HCY.out⟩)
      clear w0 hHeld HT_ HW_ ed HB9 HQ4 HXB HXC HYB HGS HSET HCY HB6 HG HB4 HNE HLI hco hci hfz q0 q3 w1 w2 hd2
      generalize Wd6.setCell ⟨rb, k, none⟩ (.int .i64 (v + co * den)) = W9 at *
      clear hi3 hk3
      have y0 : W9.cell? ⟨gy, 0, none⟩ = some (.int .i64 den) := (blk_cell HQ.out.y 0).trans rfl
      have y1 : W9.cell? ⟨gy, 1, none⟩ = some (.slice (some ad) l.length c) := (blk_cell HQ.out.y 1).trans rfl
      go_upto_region 8 with (go_at_call 32; refine (pole_Round.calls den (some ad) c l r 0 W9 HQ.out.C HQ.out.hc HR.out).mono ?_; rintro e W3 ⟨vr, rfl, ho, hb⟩; obtain ⟨Ar, nr, cr, hv_⟩ : ∃ A n c, vr = .slice A n c := (by obtain ⟨A9, c9, h9⟩ := Kd.R_slice (Kd.S_R ho); exact ⟨_, _, _, h9⟩); subst hv_; have HRo := Lib.hid (Rd.of (Kd.S_R ho)); have HB := Lib.hid hb; clear ho hb)
      clear HR
      clear y0 y1
      replace HQ := Lib.hid (HQ.out.below HB.out)
      replace HLZ := Lib.hid (HLZ.out.below HB.out)
      clear HB
      have hnr : nr = l.length := HRo.out.hn.trans hrl
      subst hnr
      have y0 : W3.cell? ⟨gy, 0, none⟩ = some (.int .i64 den) := (blk_cell HQ.out.y 0).trans rfl
      have y1 : W3.cell? ⟨gy, 1, none⟩ = some (.slice (some ad) l.length c) := (blk_cell HQ.out.y 1).trans rfl
      have HK := forecourtref09_CheckRounding.calls 1000 den (some ad) c l Ar cr r 0 W3 HQ.out.C HQ.out.hc HRo.out.C (by rw [hrl]; exact HRo.out.hc) (by rw [refCR den l r 1000 (Nat.le_refl _), HRE.out])
      rw [hrl] at HK
      have HK := Lib.hid HK
      go_upto_region 10 with (go_at_call 31; refine (HK.out).mono ?_; rintro e W4 ⟨rfl, hb⟩; have HB := Lib.hid hb; clear hb)
      clear HK
      clear y0 y1
      replace HQ := Lib.hid (HQ.out.below HB.out)
      replace HLZ := Lib.hid (HLZ.out.below HB.out)
      replace HRo := Lib.hid (HRo.out.below HB.out)
      clear HB
      go_wp2
      have HG := Lib.hid (blk_new W4 (.cells #[.slice Ar l.length cr, .slice A1 g.length c1] 37))
      have HB := Lib.hid ((Below.refl W4.heap.size W4).alloc (Nat.le_refl _) (.cells #[.slice Ar l.length cr, .slice A1 g.length c1] 37))
      replace HQ := Lib.hid (HQ.out.below HB.out)
      replace HLZ := Lib.hid (HLZ.out.below HB.out)
      replace HRo := Lib.hid (HRo.out.below HB.out)
      clear HB
      generalize W4.alloc (.cells #[.slice Ar l.length cr, .slice A1 g.length c1] 37) = W5 at *
      generalize W4.heap.size = gb at *
      have HX := Lib.hid (show ∀ i : Nat, i < 2 → ∃ Ax cx x, (∀ W', Below W5.heap.size W5 W' → W'.cell? ⟨gb, i, none⟩ = some (.slice Ax x.length cx) ∧ Kd.C (Kd.slice 2 (Kd.int .i64)) W' Ax x.length x) ∧ x.length ≤ cx ∧ ∀ y ∈ x, ∀ v ∈ y, -9223372036854775808 ≤ v from fun i hi => by
        match i with
        | 0 => exact ⟨Ar, cr, r, fun W' hW => ⟨by rw [hrl]; exact (blk_cell (blk_below HG.out hW) 0).trans rfl, (HRo.out.below hW).C⟩, by rw [hrl]; exact HRo.out.hc, fun y hy v hv => by have := hru y hy v hv; omega⟩
        | 1 => exact ⟨A1, c1, g, fun W' hW => ⟨(blk_cell (blk_below HG.out hW) 1).trans rfl, (HQ.out.below hW).C1⟩, HQ.out.hc1, HLO.out⟩)
      have HW5 := Lib.hid (Below.refl W5.heap.size W5)
      clear HG HRE HRo hrl
      go_loopg [18, 19, 20] 2 (fun kq v18 v19 v20 w' => ∃ j : Nat, v18 = .int .i64 j ∧ Aside0 (j + kq = 2) ∧ Aside0 (Below W5.heap.size W5 w'))
      case atStart => exact ⟨0, rfl, ⟨by omega⟩, ⟨HW5.out⟩⟩
      case round =>
        clear HW5
        obtain ⟨j, rfl, HI, HW⟩ := hrel
        cases gk with
        | zero => as_aux_lemma =>
          have hj : j = 2 := by have := HI.out; omega
          subst hj
          go_wp2_with (go_at_call 15; refine (works_calls _).mono ?_; rintro e W6 ⟨rfl, hb⟩; have HB := Lib.hid hb; clear hb)
          go_ret
          exact ⟨rfl, by rw [← eg0] at *; have h9 := HQ.out.below HW.out; exact below_then h9.g h9.g.size HB.out⟩
        | succ k1 => as_aux_lemma =>
          have hj : j < 2 := by have := HI.out; omega
          have hj2 : (j : Int) < 2 := by omega
          have hj3 : decide ((j : Int) < 2) = true := decide_eq_true hj2
          obtain ⟨Ax, cx, x, hx1, hx2, hx3⟩ := HX.out j hj
          have HX3 := Lib.hid hx3
          clear hx3
          have HX1 := Lib.hid hx1
          clear hx1 HX
          have HBW := Lib.hid HW.out
          have HS := Lib.hid (show ∀ w' : World, Below W5.heap.size W5 w' → (w'.cell? ⟨gy, 0, none⟩ = some (.int .i64 den) ∧ w'.cell? ⟨gy, 1, none⟩ = some (.slice (some ad) l.length c)) ∧ w'.cell? ⟨gb, j, none⟩ = some (.slice Ax x.length cx) from fun w' hw => ⟨⟨(blk_cell (HQ.out.below hw).y 0).trans rfl, (blk_cell (HQ.out.below hw).y 1).trans rfl⟩, (HX1.out w' hw).1⟩)
          clear HW
          have HSH := Lib.hid (show forecourtref09_Shaped.f 1000 den l x = some (shapedB l x) by
            have hv := Valid.of HT.out
            exact refShaped den l x hv.n0 hv.n6 1000 (by omega))
          obtain ⟨b, hb0⟩ : ∃ b, shapedB l x = b := ⟨_, rfl⟩
          rw [hb0] at HSH
          go_upto_region 14 with (fail)
          obtain ⟨Wd14, ed⟩ : ∃ Wd, wr.drew = Wd := ⟨_, rfl⟩
          have HBW := Lib.hid (show Below W5.heap.size W5 Wd14 from by rw [← ed]; exact below_drew HBW.out)
          refine start_ (n := 7) (S := fun w' => (w'.cell? ⟨gy, 0, none⟩ = some (.int .i64 den) ∧ w'.cell? ⟨gy, 1, none⟩ = some (.slice (some ad) l.length c)) ∧ w'.cell? ⟨gb, j, none⟩ = some (.slice Ax x.length cx)) (ds := []) #[false, false, false, false, false, false, false] (by kernel_rfl) rfl rfl (by rw [ed]; exact HS.out _ HBW.out) (fun hHeld => ?_); refine with_tabW turned11.tab14 turned11.bits14 (fun HT_ HW_ => ?_)
          rw [ed] at hHeld ⊢
          refine take_ (i := 0) (N := some 90) (v := ?_) (a' := ?_) #[true, false, false, false, false, false, false] rfl rfl (take_ofW HT_.out HW_.out (by kernel_rfl)) (fun _ _ _ h => h) (Or.inl ⟨by rfl, ?_⟩) hHeld ?_ ?_
          rotate_left
          · rintro w' ⟨⟨s0, s1⟩, s2⟩
            go_simp
            with_reducible rfl
          rotate_left
          · simp only [Act.put, List.setIfInBounds_toArray, List.set_cons_zero, List.set_cons_succ, i64_w, i32_w]
            rfl
          refine pure_ (i := 1) (N := some 91) (v := ?_) (a' := ?_) #[true, true, false, false, false, false, false] rfl rfl (any_of HT_.out (by kernel_rfl)) (fun _ _ _ h => h) (Or.inl ⟨by rfl, ?_⟩) ?_ ?_
          rotate_left
          · intro w'
            go_simp
            with_reducible rfl
          rotate_left
          · simp only [Act.put, List.setIfInBounds_toArray, List.set_cons_zero, List.set_cons_succ, i64_w, i32_w]
            rfl
          refine pure_ (i := 2) (N := some 92) (v := ?_) (a' := ?_) #[true, true, true, false, false, false, false] rfl rfl (any_of HT_.out (by kernel_rfl)) (fun _ _ _ h => h) (Or.inl ⟨by rfl, ?_⟩) ?_ ?_
          rotate_left
          · intro w'
            go_simp
            with_reducible rfl
          rotate_left
          · simp only [Act.put, List.setIfInBounds_toArray, List.set_cons_zero, List.set_cons_succ, i64_w, i32_w]
            rfl
          refine pure_ (i := 3) (N := some 93) (v := ?_) (a' := ?_) #[true, true, true, true, false, false, false] rfl rfl (any_of HT_.out (by kernel_rfl)) (fun _ _ _ h => h) (Or.inl ⟨by rfl, ?_⟩) ?_ ?_
          rotate_left
          · intro w'
            go_simp
            with_reducible rfl
          rotate_left
          · simp only [Act.put, List.setIfInBounds_toArray, List.set_cons_zero, List.set_cons_succ, i64_w, i32_w]
            rfl
          refine take_ (i := 4) (N := some 94) (v := ?_) (a' := ?_) #[true, true, true, true, true, false, false] rfl rfl (take_ofW HT_.out HW_.out (by kernel_rfl)) (fun _ _ _ h => h) (Or.inl ⟨by rfl, ?_⟩) hHeld ?_ ?_
          rotate_left
          · rintro w' ⟨⟨s0, s1⟩, s2⟩
            go_simp
            with_reducible rfl
          rotate_left
          · simp only [Act.put, List.setIfInBounds_toArray, List.set_cons_zero, List.set_cons_succ, i64_w, i32_w]
            rfl
          refine one_ (i := 5) (N := some 95) #[true, true, true, true, true, true, false] rfl rfl (one_of HT_.out (by kernel_rfl)) (by decide) (fun K hK => ?_)
          refine goes_ Try.func41 (by kernel_rfl) rfl #[.agg #[.int .i64 den, .slice (some ad) l.length c], .slice Ax x.length cx] (by rfl) rfl rfl (by (try simp only [List.map_toArray, List.map_cons, List.map_nil]); first | done | rfl) ?_
          refine (forecourtref09_Shaped.calls 1000 den (some ad) c l Ax cx x b Wd14 (HQ.out.below HBW.out).C HQ.out.hc (HX1.out _ HBW.out).2 hx2 HSH.out).mono ?_
          rintro e W6 ⟨rfl, hb⟩
          refine ⟨_, rfl, ?_⟩
          have HBW := Lib.hid (below_then HBW.out HBW.out.size hb)
          clear hb
          refine hK.out _ _ (HS.out _ HBW.out) (fun hHeld => ?_)
          clear hK K
          refine norm_ (a' := ?_) ?_ ?_
          rotate_left
          · show Act.put _ (some 95) _ = _
            simp only [Act.put, List.setIfInBounds_toArray, List.set_cons_zero, List.set_cons_succ, i64_w, i32_w]
            rfl
          clear hHeld
          have hHeld := HS.out _ HBW.out
          refine pure_ (i := 6) (N := some 96) (v := ?_) (a' := ?_) #[true, true, true, true, true, true, true] rfl rfl (any_of HT_.out (by kernel_rfl)) (fun _ _ _ h => h) (Or.inl ⟨by rfl, ?_⟩) ?_ ?_
          rotate_left
          · intro w'
            go_simp
            with_reducible rfl
          rotate_left
          · simp only [Act.put, List.setIfInBounds_toArray, List.set_cons_zero, List.set_cons_succ, i64_w, i32_w]
            rfl
          refine done_ (done_of HT_.out (by kernel_rfl)) ?_
          clear hHeld HT_ HW_ ed HSH
          cases b with
          | false => as_aux_lemma =>
            clear hb0
            go_wp2
            go_roundg k1
            case rel => exact ⟨j + 1, by go_num, ⟨by have := HI.out; omega⟩, ⟨HBW.out⟩⟩
            case measure => omega
          | true =>
            obtain ⟨E, hE⟩ : ∃ E, refRE den l x = E := ⟨_, rfl⟩
            have HPE := Lib.hid (show pole_CheckRounding.f den l x = some E by unfold pole_CheckRounding.f; rw [rounding_same, hE])
            have hsh := shaped_iff.1 hb0
            rw [HEM.out] at hsh
            have HPT := Lib.hid (show pole_CheckRounding.f den (tr m l) (tr m x) = some E by
              unfold pole_CheckRounding.f
              rw [rounding_same]
              have h9 := turned_same HT.out hb0
              rw [HEM.out] at h9
              rw [h9, hE])
            have HSX := Lib.hid hsh
            have HB0 := Lib.hid hb0
            have HE := Lib.hid hE
            have h06 : 0 < x.length ∧ x.length ≤ 6 := by have h1 := Valid.of HT.out; have := h1.n0; have := h1.n6; omega
            have hm6 : m ≤ 6 := by have h1 := Valid.of HT.out; have := h1.m6; rw [HEM.out] at this; exact this
            have H06 := Lib.hid (And.intro h06 hm6)
            clear hsh hb0 hE h06 hm6
            go_upto_region 15 with (fail)
            obtain ⟨Wd15, ed⟩ : ∃ Wd, W6.drew = Wd := ⟨_, rfl⟩
            have HBW := Lib.hid (show Below W5.heap.size W5 Wd15 from by rw [← ed]; exact below_drew HBW.out)
            refine start_ (n := 7) (S := fun w' => (w'.cell? ⟨gy, 0, none⟩ = some (.int .i64 den) ∧ w'.cell? ⟨gy, 1, none⟩ = some (.slice (some ad) l.length c)) ∧ w'.cell? ⟨gb, j, none⟩ = some (.slice Ax x.length cx)) (ds := []) #[false, false, false, false, false, false, false] (by kernel_rfl) rfl rfl (by rw [ed]; exact HS.out _ HBW.out) (fun hHeld => ?_); refine with_tabW turned11.tab15 turned11.bits15 (fun HT_ HW_ => ?_)
            rw [ed] at hHeld ⊢
            refine take_ (i := 0) (N := some 97) (v := ?_) (a' := ?_) #[true, false, false, false, false, false, false] rfl rfl (take_ofW HT_.out HW_.out (by kernel_rfl)) (fun _ _ _ h => h) (Or.inl ⟨by rfl, ?_⟩) hHeld ?_ ?_
            rotate_left
            · rintro w' ⟨⟨s0, s1⟩, s2⟩
              go_simp
              with_reducible rfl
            rotate_left
            · simp only [Act.put, List.setIfInBounds_toArray, List.set_cons_zero, List.set_cons_succ, i64_w, i32_w]
              rfl
            refine pure_ (i := 1) (N := some 98) (v := ?_) (a' := ?_) #[true, true, false, false, false, false, false] rfl rfl (any_of HT_.out (by kernel_rfl)) (fun _ _ _ h => h) (Or.inl ⟨by rfl, ?_⟩) ?_ ?_
            rotate_left
            · intro w'
              go_simp
              with_reducible rfl
            rotate_left
            · simp only [Act.put, List.setIfInBounds_toArray, List.set_cons_zero, List.set_cons_succ, i64_w, i32_w]
              rfl
            refine pure_ (i := 2) (N := some 99) (v := ?_) (a' := ?_) #[true, true, true, false, false, false, false] rfl rfl (any_of HT_.out (by kernel_rfl)) (fun _ _ _ h => h) (Or.inl ⟨by rfl, ?_⟩) ?_ ?_
            rotate_left
            · intro w'
              go_simp
              with_reducible rfl
            rotate_left
            · simp only [Act.put, List.setIfInBounds_toArray, List.set_cons_zero, List.set_cons_succ, i64_w, i32_w]
              rfl
            refine pure_ (i := 3) (N := some 100) (v := ?_) (a' := ?_) #[true, true, true, true, false, false, false] rfl rfl (any_of HT_.out (by kernel_rfl)) (fun _ _ _ h => h) (Or.inl ⟨by rfl, ?_⟩) ?_ ?_
            rotate_left
            · intro w'
              go_simp
              with_reducible rfl
            rotate_left
            · simp only [Act.put, List.setIfInBounds_toArray, List.set_cons_zero, List.set_cons_succ, i64_w, i32_w]
              rfl
            refine take_ (i := 4) (N := some 101) (v := ?_) (a' := ?_) #[true, true, true, true, true, false, false] rfl rfl (take_ofW HT_.out HW_.out (by kernel_rfl)) (fun _ _ _ h => h) (Or.inl ⟨by rfl, ?_⟩) hHeld ?_ ?_
            rotate_left
            · rintro w' ⟨⟨s0, s1⟩, s2⟩
              go_simp
              with_reducible rfl
            rotate_left
            · simp only [Act.put, List.setIfInBounds_toArray, List.set_cons_zero, List.set_cons_succ, i64_w, i32_w]
              rfl
            refine one_ (i := 5) (N := some 102) #[true, true, true, true, true, true, false] rfl rfl (one_of HT_.out (by kernel_rfl)) (by decide) (fun K hK => ?_)
            refine goes_ Try.func30 (by kernel_rfl) rfl #[.agg #[.int .i64 den, .slice (some ad) l.length c], .slice Ax x.length cx] (by rfl) rfl rfl (by (try simp only [List.map_toArray, List.map_cons, List.map_nil]); first | done | rfl) ?_
            refine (pole_CheckRounding.calls den (some ad) c l Ax cx x E Wd15 (HQ.out.below HBW.out).C HQ.out.hc (HX1.out _ HBW.out).2 hx2 HPE.out).mono ?_
            rintro e W7 ⟨rfl, hb⟩
            refine ⟨_, rfl, ?_⟩
            have HBW := Lib.hid (below_then HBW.out HBW.out.size hb)
            clear hb
            refine hK.out _ _ (HS.out _ HBW.out) (fun hHeld => ?_)
            clear hK K
            refine norm_ (a' := ?_) ?_ ?_
            rotate_left
            · show Act.put _ (some 102) _ = _
              simp only [Act.put, List.setIfInBounds_toArray, List.set_cons_zero, List.set_cons_succ, i64_w, i32_w]
              rfl
            clear hHeld
            have hHeld := HS.out _ HBW.out
            refine pure_ (i := 6) (N := some 19) (v := ?_) (a' := ?_) #[true, true, true, true, true, true, true] rfl rfl (any_of HT_.out (by kernel_rfl)) (fun _ _ _ h => h) (Or.inl ⟨by rfl, ?_⟩) ?_ ?_
            rotate_left
            · intro w'
              go_simp
              with_reducible rfl
            rotate_left
            · simp only [Act.put, List.setIfInBounds_toArray, List.set_cons_zero, List.set_cons_succ, i64_w, i32_w]
              rfl
            refine done_ (done_of HT_.out (by kernel_rfl)) ?_
            clear hHeld HT_ HW_ ed HPE
            go_upto_region 16 with (fail)
            obtain ⟨Wd16, ed⟩ : ∃ Wd, W7.drew = Wd := ⟨_, rfl⟩
            have HBW := Lib.hid (show Below W5.heap.size W5 Wd16 from by rw [← ed]; exact below_drew HBW.out)
            have HSX2 := Lib.hid (show ∀ w' : World, Below W5.heap.size W5 w' → (w'.cell? ⟨bx, 0, none⟩ = some (.int .i64 den) ∧ w'.cell? ⟨bx, 1, none⟩ = some (.slice AX m cX)) ∧ w'.cell? ⟨gb, j, none⟩ = some (.slice Ax x.length cx) from fun w' hw => ⟨⟨(blk_cell (HLZ.out.below hw).x 0).trans rfl, (blk_cell (HLZ.out.below hw).x 1).trans rfl⟩, (HX1.out w' hw).1⟩)
            refine start_ (n := 9) (S := fun w' => (w'.cell? ⟨bx, 0, none⟩ = some (.int .i64 den) ∧ w'.cell? ⟨bx, 1, none⟩ = some (.slice AX m cX)) ∧ w'.cell? ⟨gb, j, none⟩ = some (.slice Ax x.length cx)) (ds := []) #[false, false, false, false, false, false, false, false, false] (by kernel_rfl) rfl rfl (by rw [ed]; exact HSX2.out _ HBW.out) (fun hHeld => ?_); refine with_tabW turned11.tab16 turned11.bits16 (fun HT_ HW_ => ?_)
            rw [ed] at hHeld ⊢
            refine take_ (i := 0) (N := some 103) (v := ?_) (a' := ?_) #[true, false, false, false, false, false, false, false, false] rfl rfl (take_ofW HT_.out HW_.out (by kernel_rfl)) (fun _ _ _ h => h) (Or.inl ⟨by rfl, ?_⟩) hHeld ?_ ?_
            rotate_left
            · rintro w' ⟨⟨s0, s1⟩, s2⟩
              go_simp
              with_reducible rfl
            rotate_left
            · simp only [Act.put, List.setIfInBounds_toArray, List.set_cons_zero, List.set_cons_succ, i64_w, i32_w]
              rfl
            refine pure_ (i := 1) (N := some 104) (v := ?_) (a' := ?_) #[true, true, false, false, false, false, false, false, false] rfl rfl (any_of HT_.out (by kernel_rfl)) (fun _ _ _ h => h) (Or.inl ⟨by rfl, ?_⟩) ?_ ?_
            rotate_left
            · intro w'
              go_simp
              with_reducible rfl
            rotate_left
            · simp only [Act.put, List.setIfInBounds_toArray, List.set_cons_zero, List.set_cons_succ, i64_w, i32_w]
              rfl
            refine pure_ (i := 2) (N := some 105) (v := ?_) (a' := ?_) #[true, true, true, false, false, false, false, false, false] rfl rfl (any_of HT_.out (by kernel_rfl)) (fun _ _ _ h => h) (Or.inl ⟨by rfl, ?_⟩) ?_ ?_
            rotate_left
            · intro w'
              go_simp
              with_reducible rfl
            rotate_left
            · simp only [Act.put, List.setIfInBounds_toArray, List.set_cons_zero, List.set_cons_succ, i64_w, i32_w]
              rfl
            refine pure_ (i := 3) (N := some 106) (v := ?_) (a' := ?_) #[true, true, true, true, false, false, false, false, false] rfl rfl (any_of HT_.out (by kernel_rfl)) (fun _ _ _ h => h) (Or.inl ⟨by rfl, ?_⟩) ?_ ?_
            rotate_left
            · intro w'
              go_simp
              with_reducible rfl
            rotate_left
            · simp only [Act.put, List.setIfInBounds_toArray, List.set_cons_zero, List.set_cons_succ, i64_w, i32_w]
              rfl
            refine pure_ (i := 7) (N := some 110) (v := ?_) (a' := ?_) #[true, true, true, true, false, false, false, true, false] rfl rfl (any_of HT_.out (by kernel_rfl)) (fun _ _ _ h => h) (Or.inl ⟨by rfl, ?_⟩) ?_ ?_
            rotate_left
            · intro w'
              go_simp
              with_reducible rfl
            rotate_left
            · simp only [Act.put, List.setIfInBounds_toArray, List.set_cons_zero, List.set_cons_succ, i64_w, i32_w]
              rfl
            refine take_ (i := 4) (N := some 107) (v := ?_) (a' := ?_) #[true, true, true, true, true, false, false, true, false] rfl rfl (take_ofW HT_.out HW_.out (by kernel_rfl)) (fun _ _ _ h => h) (Or.inl ⟨by rfl, ?_⟩) hHeld ?_ ?_
            rotate_left
            · rintro w' ⟨⟨s0, s1⟩, s2⟩
              go_simp
              with_reducible rfl
            rotate_left
            · simp only [Act.put, List.setIfInBounds_toArray, List.set_cons_zero, List.set_cons_succ, i64_w, i32_w]
              rfl
            refine one_ (i := 5) (N := some 108) #[true, true, true, true, true, true, false, true, false] rfl rfl (one_of HT_.out (by kernel_rfl)) (by decide) (fun K hK => ?_)
            refine goes_ Try.func43 (by kernel_rfl) rfl #[.slice Ax x.length cx] (by rfl) rfl rfl (by (try simp only [List.map_toArray, List.map_cons, List.map_nil]); first | done | rfl) ?_
            refine (turned43_calls Ax cx x m Wd16 (HX1.out _ HBW.out).2 hx2 H06.out.1.1 (by have := H06.out.1.2; omega) (by have := H06.out.2; omega) HSX.out.2).mono ?_
            rintro e W8 ⟨AT, cT, rfl, _, hcT, hCT, hb⟩
            refine ⟨_, rfl, ?_⟩
            have HBW := Lib.hid (below_then HBW.out HBW.out.size hb)
            clear hb
            refine hK.out _ _ (HSX2.out _ HBW.out) (fun hHeld => ?_)
            clear hK K
            refine norm_ (a' := ?_) ?_ ?_
            rotate_left
            · show Act.put _ (some 108) _ = _
              simp only [Act.put, List.setIfInBounds_toArray, List.set_cons_zero, List.set_cons_succ, i64_w, i32_w]
              rfl
            clear hHeld
            have hHeld := HSX2.out _ HBW.out
            have HK30 := Lib.hid (show Calls Try.prog 30 #[.agg #[.int .i64 den, .slice AX m cX], .slice AT m cT] W8 _ by
              have h9 := pole_CheckRounding.calls den AX cX (tr m l) AT cT (tr m x) E W8 (HLZ.out.below HBW.out).CX (by rw [tr_len]; exact HLZ.out.hcX) hCT (by rw [tr_len]; exact hcT) HPT.out
              rw [tr_len, tr_len] at h9
              exact h9)
            refine one_ (i := 6) (N := some 109) #[true, true, true, true, true, true, true, true, false] rfl rfl (one_of HT_.out (by kernel_rfl)) (by decide) (fun K hK => ?_)
            refine goes_ Try.func30 (by kernel_rfl) rfl #[.agg #[.int .i64 den, .slice AX m cX], .slice AT m cT] (by rfl) rfl rfl (by (try simp only [List.map_toArray, List.map_cons, List.map_nil]); first | done | rfl) ?_
            refine (HK30.out).mono ?_
            rintro e W10 ⟨rfl, hb⟩
            refine ⟨_, rfl, ?_⟩
            have HBW := Lib.hid (below_then HBW.out HBW.out.size hb)
            clear hb HK30 hCT hcT
            refine hK.out _ _ (HSX2.out _ HBW.out) (fun hHeld => ?_)
            clear hK K
            refine norm_ (a' := ?_) ?_ ?_
            rotate_left
            · show Act.put _ (some 109) _ = _
              simp only [Act.put, List.setIfInBounds_toArray, List.set_cons_zero, List.set_cons_succ, i64_w, i32_w]
              rfl
            clear hHeld
            have hHeld := HSX2.out _ HBW.out
            refine pure_ (i := 8) (N := some 111) (v := ?_) (a' := ?_) #[true, true, true, true, true, true, true, true, true] rfl rfl (any_of HT_.out (by kernel_rfl)) (fun _ _ _ h => h) (Or.inl ⟨by rfl, ?_⟩) ?_ ?_
            rotate_left
            · intro w'
              go_simp
              with_reducible rfl
            rotate_left
            · simp only [Act.put, List.setIfInBounds_toArray, List.set_cons_zero, List.set_cons_succ, i64_w, i32_w]
              rfl
            refine done_ (done_of HT_.out (by kernel_rfl)) ?_
            clear hHeld HT_ HW_ ed HSX2 HPT
            have t9 : (E != E) = false := by simp
            have HSZ := Lib.hid HBW.out.size
            obtain ⟨⟨y0, y1⟩, y2⟩ := HS.out _ HBW.out
            go_upto_region 19 with (go_at_call 44; refine (copied44_calls Ax cx x _ (HX1.out _ HBW.out).2 (by have := H06.out.1.2; omega) (fun z hz => by have := HSX.out.2 z hz; have := H06.out.2; omega)).mono ?_; rintro e W11 ⟨AM, cM, rs2, rfl, hl2, hg2, hb⟩; have HLI2 := Lib.hid hl2; have HG2 := Lib.hid hg2; have HBW := Lib.hid (below_then HBW.out HBW.out.size hb); clear hb hl2 hg2)
            clear y0 y1 y2
            have hirs2 : i < rs2.length := by rw [← lines_len, HLI2.out, HSX.out.1]; exact hi1
            have hrx : rs2.length = x.length := by rw [← lines_len, HLI2.out]
            have hri : rs2[i].l = x.getD i [] := by
              rw [← HLI2.out]
              simp [lines, List.getD, hirs2]
            have hrm : rs2[i].l.length = m := by
              rw [hri]
              exact HSX.out.2 _ (by have := HSX.out.1; simp [List.getD, show i < x.length by omega])
            obtain ⟨gM, eM, e12, hgM, hco⟩ := HG2.out.cell i hirs2
            clear e12
            subst eM
            have hmi : rs2[i] ∈ rs2 := List.getElem_mem hirs2
            have hrow := (HG2.out.rows rs2[i] hmi).2.1
            have hci := hrow.cell k (by omega)
            have hfz := hrow.fz k
            have hvv : rs2[i].l[k]'(by omega) = (x.getD i []).getD k 0 := by
              have : (x.getD i []).getD k 0 = rs2[i].l.getD k 0 := by rw [hri]
              rw [this]
              simp [List.getD, show k < rs2[i].l.length by omega]
            rw [hvv] at hci
            obtain ⟨p, hp⟩ : ∃ p, (x.getD i []).getD k 0 = p := ⟨_, rfl⟩
            rw [hp] at hci
            have hRv : rs2[i].v = .slice (some ⟨rs2[i].b, 0, none⟩) m rs2[i].c := by
              show Value.slice _ _ _ = _
              rw [hrm]
            rw [hRv] at hco
            have HF := Lib.hid (fun (W : World) (h : Below W11.heap.size W11 W) => show (W.cell? ⟨gM, i, none⟩ = some (.slice (some ⟨rs2[i].b, 0, none⟩) m rs2[i].c) ∧ W.cell? ⟨rs2[i].b, k, none⟩ = some (.int .i64 p) ∧ W.frozen? ⟨rs2[i].b, k, none⟩ = false) ∧ ∀ u, Kd.C (Kd.slice 2 (Kd.int .i64)) (W.setCell ⟨rs2[i].b, k, none⟩ (.int .i64 (p + u))) (some ⟨gM, 0, none⟩) (addC x i k u).length (addC x i k u) from
              ⟨⟨cell_in h hco, cell_in h hci, (((HG2.out.below h).rows rs2[i] hmi).2.1).fz k⟩, fun u => by
                have h1 := ((HG2.out.below h).set i k hirs2 (by omega) (p + u)).C
                have h2 : lines (rs2.set i ⟨rs2[i].b, rs2[i].c, rs2[i].l.set k (p + u)⟩) = addC x i k u := by
                  rw [lines_set rs2 i k hirs2, HLI2.out, ← hp]
                  rfl
                rw [h2] at h1
                exact h1⟩)
            have hb6 := (HG2.out.rows rs2[i] hmi).1
            obtain ⟨_, _, e9, _, _, hcM⟩ := HG2.out.form (by omega)
            injection e9 with e9 e11 e10
            subst e10
            clear e11 e9
            rw [hrx] at hcM
            have HB6 := Lib.hid (show W5.heap.size ≤ rs2[i].b from Nat.le_trans HSZ.out hb6)
            have HP := Lib.hid hp
            have HHC := Lib.hid hcM
            have hxl : x.length = l.length := HSX.out.1
            have HPL := Lib.hid (show -9223372036854775808 ≤ p by
              have hix : i < x.length := by omega
              obtain ⟨y, hy, hv⟩ := cell_mem HSX.out.2 hix hk1
              have := HX3.out y hy _ hv
              omega)
            clear hrow hri hRv hvv hb6 hp hcM hrm hrx hmi hgM
            have hi3 : (i : Int) < (x.length : Int) := by omega
            have hk3 : (k : Int) < (m : Int) := by omega
            have HXL := Lib.hid hxl
            clear hxl HG2 HLI2
            generalize rs2[i].b = rb2 at *
            generalize rs2[i].c = rc2 at *
            clear hirs2
            have y0 : W11.cell? ⟨bY, 0, none⟩ = some (.int .i64 den) := (blk_cell (HLZ.out.below HBW.out).z 0).trans rfl
            have y1 : W11.cell? ⟨bY, 1, none⟩ = some (.slice (some ⟨gA, 0, none⟩) l.length cY) := (blk_cell (HLZ.out.below HBW.out).z 1).trans rfl
            by_cases q : p > 1000000
            · as_aux_lemma =>
              have t1 : decide (p > 1000000) = true := decide_eq_true q
              have t2 : decide (1000000 < p) = true := decide_eq_true q
              clear q
              go_wp2
              go_roundg k1
              case rel => exact ⟨j + 1, by go_num, ⟨by have := HI.out; omega⟩, ⟨HBW.out⟩⟩
              case measure => omega
            · have t1 : decide (p > 1000000) = false := decide_eq_false q
              have t2 : decide (1000000 < p) = false := decide_eq_false q
              have HPU := Lib.hid (show p ≤ 1000000 by omega)
              clear q
              obtain ⟨F2, hf2, hF2⟩ := table_eq den (addC l i k (co * den))
              have H40 := Lib.hid (show Calls Try.prog 40 #[.agg #[.int .i64 den, .slice (some ⟨gA, 0, none⟩) l.length cY]] W11 _ by
                have h9 := forecourtlaw09_table.calls 1000 den (some ⟨gA, 0, none⟩) cY (addC l i k (co * den)) F2 W11 (HLZ.out.below HBW.out).CY (by rw [addC_len]; exact HLZ.out.hcY) hf2
                rw [addC_len] at h9
                exact h9)
              have HF2 := Lib.hid hF2
              clear hf2 hF2
              cases F2 with
              | false => as_aux_lemma =>
                go_wp2_with (go_at_call 40; refine (H40.out).mono ?_; rintro e W12 ⟨rfl, hb⟩; have HBW := Lib.hid (below_then HBW.out HBW.out.size hb); clear hb)
                go_roundg k1
                case rel => exact ⟨j + 1, by go_num, ⟨by have := HI.out; omega⟩, ⟨HBW.out⟩⟩
                case measure => omega
              | true =>
                go_upto_region 20 with (go_at_call 40; refine (H40.out).mono ?_; rintro e W12 ⟨rfl, hb⟩; have HBW := Lib.hid (below_then HBW.out HBW.out.size hb); have HBN := Lib.hid hb; clear hb)
                clear H40 hco hci hfz y0 y1
                obtain ⟨⟨z0, z1, z2⟩, hcm⟩ := HF.out _ HBN.out
                have w0 : wrap64 co = co := by rw [wrap_id _ (by omega) (by omega)]
                have w3 : wrap64 (p + co) = p + co := by
                  have h1 := HPL.out
                  have h2 := HPU.out
                  rw [wrap_id _ (by omega) (by omega)]
                have HCM := Lib.hid (hcm co)
                clear hcm
                go_upto_region 21 with (fail)
                have HBW := Lib.hid (below_grown HBW.out (grown_set W12 rb2 k (.int .i64 (p + co))) (fun r e => by injection e with e; have := HB6.out; omega))
                clear z0 z1 z2 w0 w3
                generalize W12.setCell ⟨rb2, k, none⟩ (.int .i64 (p + co)) = W13 at *
                clear HF HBN HSZ HB6
                have hy2 := HF2.out (by first | trivial | rfl)
                have hhp := HP.out
                obtain ⟨ha1, ha2⟩ := added_same (v := co) HT.out HB0.out hi1 (by rw [HEM.out]; exact hk1) h3 (by rw [hhp]; exact HPU.out) hy2
                rw [HE.out] at ha1 ha2
                obtain ⟨R, hR⟩ : ∃ R, refRE den (addC l i k (co * den)) (addC x i k co) = R := ⟨_, rfl⟩
                rw [hR] at ha1 ha2
                have H30 := Lib.hid (show Calls Try.prog 30 #[.agg #[.int .i64 den, .slice (some ⟨gA, 0, none⟩) l.length cY], .slice (some ⟨gM, 0, none⟩) x.length cM] W13 _ by
                  have h9 := pole_CheckRounding.calls den (some ⟨gA, 0, none⟩) cY (addC l i k (co * den)) (some ⟨gM, 0, none⟩) cM (addC x i k co) R W13 (HLZ.out.below HBW.out).CY (by rw [addC_len]; exact HLZ.out.hcY) HCM.out (by rw [addC_len]; exact HHC.out) (by unfold pole_CheckRounding.f; rw [rounding_same, hR])
                  rw [addC_len, addC_len] at h9
                  exact h9)
                have y0 : W13.cell? ⟨bY, 0, none⟩ = some (.int .i64 den) := (blk_cell (HLZ.out.below HBW.out).z 0).trans rfl
                have y1 : W13.cell? ⟨bY, 1, none⟩ = some (.slice (some ⟨gA, 0, none⟩) l.length cY) := (blk_cell (HLZ.out.below HBW.out).z 1).trans rfl
                by_cases qE : E = 0
                · as_aux_lemma =>
                  have hR0 := ha1 qE
                  subst hR0
                  have t3 : (E == 0) = true := beq_iff_eq.mpr qE
                  have t4 : (E != 0) = false := by rw [bne, t3]; rfl
                  clear ha1 ha2 hR hy2 hhp
                  subst qE
                  go_wp2_with (go_at_call 30; refine (H30.out).mono ?_; rintro e W14 ⟨rfl, hb⟩; have HBW := Lib.hid (below_then HBW.out HBW.out.size hb); clear hb)
                  go_roundg k1
                  case rel => exact ⟨j + 1, by go_num, ⟨by have := HI.out; omega⟩, ⟨HBW.out⟩⟩
                  case measure => omega
                · have t3 : (E == 0) = false := beq_eq_false_iff_ne.mpr qE
                  have t4 : (E != 0) = true := bne_iff_ne.mpr qE
                  have t5 : ¬ E = 0 := qE
                  have hix : i < x.length := by rw [HXL.out]; exact hi1
                  obtain ⟨ad3, ad4, c3, e9, x0, x1⟩ := grid_at (HX1.out W13 HBW.out).2 (i := i) (k := k) hix (by rw [HSX.out.2 _ (by simp [List.getD, hix])]; exact hk1)
                  rw [HSX.out.2 (x.getD i []) (by simp [List.getD, hix])] at x0
                  rw [hhp] at x1
                  subst e9
                  have y2 := (HX1.out W13 HBW.out).1
                  by_cases q0 : 0 ≤ p
                  · as_aux_lemma =>
                    have hR0 := ha2 qE (by rw [hhp]; exact q0)
                    have t6 : (R == 0) = false := beq_eq_false_iff_ne.mpr hR0
                    have t8 : ¬ R = 0 := hR0
                    have t7 : decide (p ≥ 0) = true := decide_eq_true q0
                    have t7b : decide (0 ≤ p) = true := decide_eq_true q0
                    clear ha1 ha2 hR hy2 hhp qE q0 hix hR0
                    go_wp2_with (go_at_call 30; refine (H30.out).mono ?_; rintro e W14 ⟨rfl, hb⟩; have HBW := Lib.hid (below_then HBW.out HBW.out.size hb); clear hb)
                    go_roundg k1
                    case rel => exact ⟨j + 1, by go_num, ⟨by have := HI.out; omega⟩, ⟨HBW.out⟩⟩
                    case measure => omega
                  · as_aux_lemma =>
                    have t7 : decide (p ≥ 0) = false := decide_eq_false q0
                    have t7b : decide (0 ≤ p) = false := decide_eq_false q0
                    clear ha1 ha2 hR hy2 hhp qE q0 hix
                    go_wp2_with fail
                    go_roundg k1
                    case rel => exact ⟨j + 1, by go_num, ⟨by have := HI.out; omega⟩, ⟨HBW.out⟩⟩
                    case measure => omega
end Go.Proofs.Ytcgdbjojjpoegaa.P

namespace Go.Proofs.Ytcgdbjojjpoegaa.P
open Go.RowKit
theorem rng_u8 {a : Int} (w : (Lit.int .u8 a).wf = true) : 0 ≤ a ∧ a ≤ 255 := by
  have h : (0 : Int) ≤ a ∧ a ≤ 255 := by simpa [Lit.wf, IntKind.min, IntKind.max, IntKind.signed, IntKind.bits] using w
  exact h
theorem rng_u16 {a : Int} (w : (Lit.int .u16 a).wf = true) : 0 ≤ a ∧ a ≤ 65535 := by
  have h : (0 : Int) ≤ a ∧ a ≤ 65535 := by simpa [Lit.wf, IntKind.min, IntKind.max, IntKind.signed, IntKind.bits] using w
  exact h
end Go.Proofs.Ytcgdbjojjpoegaa.P

namespace Go.Proofs.Ytcgdbjojjpoegaa.P
open Go.RowKit
theorem rng_i64 {a : Int} (w : I64 a) : -9223372036854775808 ≤ a ∧ a ≤ 9223372036854775807 := by
  have h : (-9223372036854775808 : Int) ≤ a ∧ a ≤ 9223372036854775807 := by
    unfold I64 at w
    simpa [Lit.wf, IntKind.min, IntKind.max, IntKind.signed, IntKind.bits] using w
  exact h
end Go.Proofs.Ytcgdbjojjpoegaa.P

