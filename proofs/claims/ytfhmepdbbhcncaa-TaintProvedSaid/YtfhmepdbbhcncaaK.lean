import Derived.Test.YtfhmepdbbhcncaaPx0
import Derived.Deep.Slices
import Derived.ChangeShapes
import Derived.ChangeOld
import Derived.Lib.SmallJoins
namespace Go.Proofs.YtfhmepdbbhcncaaK
open Go.RowKit Go.ChangeShapes Go.WideShapes Go.Deep Go.Joins Go.Proofs.YtfhmepdbbhcncaaW.PrintWords Go.Proofs.YtfhmepdbbhcncaaW.PrintLast Go.Proofs.YtfhmepdbbhcncaaW.PrintMore

/-- What the cells of a type read as: a value of the kind d, which is ok. -/
def Opens {α : Type} (P : Program) (t : TypeId) (d : Kd α) (ok : α → Prop) : Prop :=
  ∀ (H : Type) (enc : TypeId × Value → H) (w : World) (base : Nat) (spare : Nat → Bool) (held : Bool) (fuel : Nat) (cs : List Value) (x : DataW H × List MemPlace), DataW.trod enc P w base spare held fuel t cs = some x → ∃ a, d.K w a cs ∧ ok a
theorem Opens.int {P : Program} {t : TypeId} {k : IntKind} (ht : P.underlying t = some (.int k)) : Opens P t (Kd.int k) (fun n => (Lit.int k n).wf = true) := by
  intro H enc w base spare held fuel cs x h
  obtain ⟨n, rfl, _, hw⟩ := DataW.trod_int ht h
  exact ⟨n, rfl, hw⟩
/-- Two fields side by side. -/
theorem opens_two {α β γ : Type} {P : Program} {t t0 t1 : TypeId} {d0 : Kd α} {d1 : Kd β} {ok0 : α → Prop} {ok1 : β → Prop} {fs : Array Field} {s0 s1 : Nat} (ht : P.underlying t = some (.struct fs))
    (f0 : fs[0]?.map (fun f => (f.type, f.offset)) = some (t0, 0)) (f1 : fs[1]?.map (fun f => (f.type, f.offset)) = some (t1, s0)) (c0 : P.cellsOf t0 = s0) (c1 : P.cellsOf t1 = s1) (hC : P.cellsOf t = s0 + s1) (h0 : Opens P t0 d0 ok0) (h1 : Opens P t1 d1 ok1)
    (d : Kd γ) (ok : γ → Prop) (hd : ∀ w a b x y, d0.K w a x → d1.K w b y → ok0 a → ok1 b → ∃ g, d.K w g (x ++ y) ∧ ok g) : Opens P t d ok := by
  intro H enc w base spare held fuel cs x h
  obtain ⟨xs, n, _, _, hl, hxl, hf⟩ := DataW.trod_struct ht h
  cases e0 : fs[0]? with
  | none => simp [e0] at f0
  | some g0 =>
    cases e1 : fs[1]? with
    | none => simp [e1] at f1
    | some g1 =>
      simp only [e0, e1, Option.map_some, Option.some.injEq, Prod.mk.injEq] at f0 f1
      have hs : 1 < fs.size := (Array.getElem?_eq_some_iff.1 e1).1
      have r0 := hf 0 g0 e0
      have r1 := hf 1 g1 e1
      rw [f0.1, f0.2, c0] at r0
      rw [f1.1, f1.2, c1] at r1
      rw [List.getElem?_eq_getElem (by omega)] at r0 r1
      obtain ⟨a, ka, oa⟩ := h0 H enc w base spare held n _ _ r0
      obtain ⟨b, kb, ob⟩ := h1 H enc w base spare held n _ _ r1
      obtain ⟨g, kg, og⟩ := hd w a b _ _ ka kb oa ob
      have : (cs.drop 0).take s0 ++ (cs.drop s0).take s1 = cs := by
        rw [List.drop_zero, List.take_of_length_le (l := cs.drop s0) (by rw [List.length_drop]; omega), List.take_append_drop]
      rw [this] at kg
      exact ⟨g, kg, og⟩
theorem opens_three {α β δ γ : Type} {P : Program} {t t0 t1 t2 : TypeId} {d0 : Kd α} {d1 : Kd β} {d2 : Kd δ} {ok0 : α → Prop} {ok1 : β → Prop} {ok2 : δ → Prop} {fs : Array Field} {s0 s1 s2 : Nat} (ht : P.underlying t = some (.struct fs))
    (f0 : fs[0]?.map (fun f => (f.type, f.offset)) = some (t0, 0)) (f1 : fs[1]?.map (fun f => (f.type, f.offset)) = some (t1, s0)) (f2 : fs[2]?.map (fun f => (f.type, f.offset)) = some (t2, s0 + s1)) (c0 : P.cellsOf t0 = s0) (c1 : P.cellsOf t1 = s1) (c2 : P.cellsOf t2 = s2) (hC : P.cellsOf t = s0 + s1 + s2) (h0 : Opens P t0 d0 ok0) (h1 : Opens P t1 d1 ok1) (h2 : Opens P t2 d2 ok2)
    (d : Kd γ) (ok : γ → Prop) (hd : ∀ w a b c x y z, d0.K w a x → d1.K w b y → d2.K w c z → ok0 a → ok1 b → ok2 c → ∃ g, d.K w g (x ++ (y ++ z)) ∧ ok g) : Opens P t d ok := by
  intro H enc w base spare held fuel cs x h
  obtain ⟨xs, n, _, _, hl, hxl, hf⟩ := DataW.trod_struct ht h
  cases e0 : fs[0]? with
  | none => simp [e0] at f0
  | some g0 =>
    cases e1 : fs[1]? with
    | none => simp [e1] at f1
    | some g1 =>
      cases e2 : fs[2]? with
      | none => simp [e2] at f2
      | some g2 =>
        simp only [e0, e1, e2, Option.map_some, Option.some.injEq, Prod.mk.injEq] at f0 f1 f2
        have hs : 2 < fs.size := (Array.getElem?_eq_some_iff.1 e2).1
        have r0 := hf 0 g0 e0
        have r1 := hf 1 g1 e1
        have r2 := hf 2 g2 e2
        rw [f0.1, f0.2, c0] at r0
        rw [f1.1, f1.2, c1] at r1
        rw [f2.1, f2.2, c2] at r2
        rw [List.getElem?_eq_getElem (by omega)] at r0 r1 r2
        obtain ⟨a, ka, oa⟩ := h0 H enc w base spare held n _ _ r0
        obtain ⟨b, kb, ob⟩ := h1 H enc w base spare held n _ _ r1
        obtain ⟨c, kc, oc⟩ := h2 H enc w base spare held n _ _ r2
        obtain ⟨g, kg, og⟩ := hd w a b c _ _ _ ka kb kc oa ob oc
        have : (cs.drop 0).take s0 ++ ((cs.drop s0).take s1 ++ (cs.drop (s0 + s1)).take s2) = cs := by
          have e : (cs.drop (s0 + s1)).take s2 = (cs.drop s0).drop s1 := by
            rw [List.drop_drop, List.take_of_length_le (by rw [List.length_drop]; omega)]
          rw [e, List.take_append_drop, List.drop_zero, List.take_append_drop]
        rw [this] at kg
        exact ⟨g, kg, og⟩
/-- A slice of what opens, from its one cell. -/
theorem opens_slice {α : Type} {P : Program} {t e : TypeId} {d : Kd α} {ok : α → Prop} (ht : P.underlying t = some (.slice e)) (hc : P.cellsOf e = d.sz) (he : Opens P e d ok)
    {H : Type} {enc : TypeId × Value → H} {w : World} {base : Nat} {spare : Nat → Bool} {held : Bool} {fuel : Nat} {cs : List Value} {x : DataW H × List MemPlace} (h : DataW.trod enc P w base spare held fuel t cs = some x) :
    ∃ (A : Option Addr) (c : Nat) (l : List α), cs = [.slice A l.length c] ∧ l.length ≤ c ∧ d.C w A l.length l ∧ ∀ a ∈ l, ok a := by
  rcases open_slice ht h with ⟨rfl, _⟩ | ⟨a, len, cap, m, n, D, Pl, rfl, hb, hl, hm, hmm, _, hx⟩
  · exact ⟨none, 0, [], rfl, Nat.le_refl _, ⟨rfl, by simp, fun h => absurd h (by simp)⟩, by simp⟩
  · have hle : len ≤ m := by rw [hmm]; split <;> omega
    have hex : ∀ i, i < len → ∃ y : α, ok y ∧ ∃ cs', cs'.length = d.sz ∧ d.K w y cs' ∧ ∀ j u, cs'[j]? = some u → w.cell? (a.add (i * d.sz + j)) = some u := by
      intro i hi
      obtain ⟨cs', h1, h2⟩ := hx i (by omega)
      obtain ⟨y, ky, oy⟩ := he H enc w base spare held n _ _ h2
      obtain ⟨_, hlen, hcell⟩ := World.cells?_some h1
      rw [hc] at hlen hcell
      refine ⟨y, oy, cs', hlen, ky, fun j u hu => ?_⟩
      have hj : j < d.sz := by
        have := (List.getElem?_eq_some_iff.1 hu).1
        omega
      have := hcell j hj
      rw [Go.Deep.add_add] at this
      rw [this, hu]
    have key : ∀ N, N ≤ len → ∃ l : List α, l.length = N ∧ (∀ y ∈ l, ok y) ∧ ∀ j p, l[j]? = some p → ∃ c, c.length = d.sz ∧ d.K w p c ∧ ∀ i u, c[i]? = some u → w.cell? (a.add (j * d.sz + i)) = some u := by
      intro N
      induction N with
      | zero => exact fun _ => ⟨[], rfl, by simp, fun j p h => by simp at h⟩
      | succ N ih =>
        intro hN
        obtain ⟨l, hl1, hl2, hl3⟩ := ih (by omega)
        obtain ⟨y, oy, cs', hs, ky, hcell⟩ := hex N (by omega)
        refine ⟨l ++ [y], by simp [hl1], fun z hz => ?_, fun j p hj => ?_⟩
        · rcases List.mem_append.1 hz with hz | hz
          · exact hl2 z hz
          · rw [List.mem_singleton] at hz; subst hz; exact oy
        · by_cases hjl : j < l.length
          · rw [List.getElem?_append_left hjl] at hj
            exact hl3 j p hj
          · rw [List.getElem?_append_right (by omega)] at hj
            have hj0 : j - l.length = 0 := by
              have := (List.getElem?_eq_some_iff.1 hj).1
              simp at this
              omega
            rw [hj0] at hj
            simp only [List.getElem?_cons_zero, Option.some.injEq] at hj
            subst hj
            have : j = N := by omega
            subst this
            exact ⟨cs', hs, ky, hcell⟩
    obtain ⟨l, hl1, hl2, hl3⟩ := key len (Nat.le_refl _)
    subst hl1
    refine ⟨some a, cap, l, rfl, hl, ⟨rfl, ?_, fun _ => ⟨a, rfl, hl3⟩⟩, hl2⟩
    have : maxLen = 9223372036854775807 := rfl
    omega
/-- A slice that was passed. -/
theorem arg_slice {α : Type} {P : Program} {t e : TypeId} {d : Kd α} {ok : α → Prop} (ht : P.underlying t = some (.slice e)) (hc : P.cellsOf e = d.sz) (he : Opens P e d ok)
    {H : Type} {enc : TypeId × Value → H} {w : World} {r : Reach} {base b0 : Nat} {spare : Nat → Bool} {held : Bool} {v : Value} {dd : DataW H} {p : List MemPlace} (hv : Value.okWide P w r b0 t v) (h : DataW.Trod enc P w base spare held t v dd p) :
    ∃ (A : Option Addr) (c : Nat) (l : List α), v = .slice A l.length c ∧ l.length ≤ c ∧ d.C w A l.length l ∧ ∀ a ∈ l, ok a := by
  obtain ⟨A, n, c, rfl⟩ := okWide_slice ht hv
  obtain ⟨fuel, hf⟩ := h
  obtain ⟨A', c', l, hcs, hl, hC, hok⟩ := opens_slice ht hc he hf
  have : [Value.slice A n c] = [Value.slice A' l.length c'] := hcs
  simp only [List.cons.injEq, Value.slice.injEq, and_true] at this
  obtain ⟨rfl, rfl, rfl⟩ := this
  exact ⟨A, c, l, rfl, hl, hC, hok⟩
theorem arg_lt {P : Program} {H : Type} {enc : TypeId × Value → H} {w : World} {base : Nat} {spare : Nat → Bool} {held : Bool} {t : TypeId} {v : Value} {dd : DataW H} {p : List MemPlace} (h : DataW.Trod enc P w base spare held t v dd p) : ∀ x ∈ p, x.block < w.heap.size := by
  obtain ⟨m, hm⟩ := h
  exact DataW.trod_lt m _ _ _ hm
end Go.Proofs.YtfhmepdbbhcncaaK
