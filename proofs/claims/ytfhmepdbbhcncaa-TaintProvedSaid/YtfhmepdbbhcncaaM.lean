import Derived.WalkKit
import Derived.MapKept
import Derived.WideLaws
import Derived.OwnWalk
import Derived.Carry
import Derived.Below
import Derived.RangeFuncOwn
/- Maps that the call itself makes, told by a plain function from keys to values. -/
namespace Go.Proofs.YtfhmepdbbhcncaaM
open Go.Instr
variable {P : Program} {κ : Type} [DecidableEq κ]

/-- A key's type whose values are written by enc: what is asked of it. -/
structure KeyOK (P : Program) (kt : TypeId) (enc : κ → Value) : Prop where
  chk : ∀ (e : Bool) (k : κ) (w : World), (checkKey e 10000 kt (enc k)).run P w = .ok () w
  eq : ∀ (a b : κ) (w : World), (Op.equal kt (enc a) (enc b)).run P w = .ok (decide (a = b)) w
  bits : ∀ a : κ, sameBits 10000 (enc a) (enc a) = true
  und : ∃ d, P.underlying kt = some d ∧ ((∀ a b : κ, sameNow d (enc a) (enc b) = none) ∨ (∀ a b : κ, sameNow d (enc a) (enc b) = some (decide (a = b))))

abbrev Ent (κ : Type) := κ × Value × Nat
def mkE (enc : κ → Value) (x : Ent κ) : MapEntry := ⟨enc x.1, x.2.1, x.2.2⟩
def findE (k : κ) : List (Ent κ) → Nat → Option (Nat × Value)
  | [], _ => none
  | e :: es, i => if k = e.1 then some (i, e.2.1) else findE k es (i + 1)

theorem findAsking_run {kt : TypeId} {enc : κ → Value} (K : KeyOK P kt enc) (k : κ) : ∀ (es : List (Ent κ)) (i : Nat) (w : World),
    (findAsking kt (enc k) (es.map (mkE enc)) i).run P w = .ok (findE k es i) w
  | [], i, w => by simp [findAsking, findE, Sem.run_pure]
  | e :: es, i, w => by
    simp only [List.map_cons, findAsking, findE, mkE]
    rw [Sem.run_bind, K.eq]
    by_cases h : k = e.1
    · simp [h, Result.andThen, Sem.run_pure]
    · simp [h, Result.andThen]
      exact findAsking_run K k es (i + 1) w

theorem findNow_run {d : TypeDesc} {enc : κ → Value} (h : ∀ a b : κ, sameNow d (enc a) (enc b) = some (decide (a = b))) (k : κ) : ∀ (es : List (Ent κ)) (i : Nat),
    findNow d (enc k) (es.map (mkE enc)) i = some (findE k es i)
  | [], i => rfl
  | e :: es, i => by
    simp only [List.map_cons, findNow, mkE, h]
    by_cases hk : k = e.1
    · simp [hk, findE]
    · simp [hk, findE]
      exact findNow_run h k es (i + 1)

theorem findKey_run {kt : TypeId} {enc : κ → Value} (K : KeyOK P kt enc) (k : κ) (es : List (Ent κ)) (w : World) :
    (findKey kt (enc k) (es.map (mkE enc))).run P w = .ok (findE k es 0) w := by
  obtain ⟨d, hd, h | h⟩ := K.und
  · simp only [findKey]
    rw [Sem.run_bind, run_underlying hd]
    simp only [Result.andThen]
    cases es with
    | nil => simp [findNow, findE, Sem.run_pure]
    | cons e es =>
      have : findNow d (enc k) ((e :: es).map (mkE enc)) 0 = none := by simp [findNow, mkE, h]
      rw [this]
      exact findAsking_run K k (e :: es) 0 w
  · simp only [findKey]
    rw [Sem.run_bind, run_underlying hd]
    simp only [Result.andThen]
    rw [findNow_run h]
    simp [Sem.run_pure]

/-- what the entries say at a key -/
def getE (es : List (Ent κ)) (k : κ) : Option Value := (es.find? (fun e => decide (k = e.1))).map (fun e => e.2.1)
theorem findE_get (k : κ) : ∀ (es : List (Ent κ)) (i : Nat), (findE k es i).map Prod.snd = getE es k
  | [], i => rfl
  | e :: es, i => by
    by_cases h : k = e.1
    · simp [findE, getE, h]
    · simp only [findE, getE, h, if_false, List.find?_cons, decide_false]
      have := findE_get k es (i + 1)
      simpa [getE] using this

/-- BLOCK b OF w IS A MAP OF AT MOST n ENTRIES THAT ANSWERS f. -/
def MapAt (w : World) (enc : κ → Value) (b : Nat) (n : Nat) (f : κ → Option Value) : Prop :=
  ∃ (es : List (Ent κ)) (clock : Nat), w.heap[b]? = some (.map (es.map (mkE enc)).toArray clock) ∧ (es.map Prod.fst).Nodup ∧ es.length ≤ n ∧ ∀ k, f k = getE es k

theorem MapAt.made (w : World) (enc : κ → Value) : MapAt (w.alloc (.map #[] 0)) enc w.heap.size 0 (fun _ => none) :=
  ⟨[], 0, World.alloc_heap_new w _, by simp, Nat.le_refl _, fun _ => rfl⟩
theorem MapAt.lt {w : World} {enc : κ → Value} {b n : Nat} {f : κ → Option Value} (h : MapAt w enc b n f) : b < w.heap.size := by
  obtain ⟨es, clock, hb, _⟩ := h
  exact (Array.getElem?_eq_some_iff.1 hb).1
theorem MapAt.move {w w' : World} {enc : κ → Value} {b n : Nat} {f : κ → Option Value} (h : MapAt w enc b n f) (hk : w'.heap[b]? = w.heap[b]?) : MapAt w' enc b n f := by
  obtain ⟨es, clock, hb, hr⟩ := h
  exact ⟨es, clock, hk.trans hb, hr⟩

/-- m[k], with or without ok -/
theorem MapAt.lookup {w : World} {enc : κ → Value} {b n : Nat} {f : κ → Option Value} (h : MapAt w enc b n f) {t kt e : TypeId} (K : KeyOK P kt enc) (ht : P.underlying t = some (.map kt e)) {z : Value} (hz : ∀ w, (zeroValue e).run P w = .ok z w) (k : κ) (ok : Bool) :
    (Instr.lookup t (.map (some b)) (enc k) ok).run P w = .ok (if ok then .tuple #[(f k).getD z, .bool (f k).isSome] else (f k).getD z) w := by
  obtain ⟨es, clock, hb, _, _, hf⟩ := h
  have hg : (getObj b).run P w = .ok (.map (es.map (mkE enc)).toArray clock) w := by simp [getObj, Sem.run, hb]
  have hfe := findE_get k es 0
  rw [← hf k] at hfe
  simp only [Instr.lookup]
  rw [Sem.run_bind, run_underlying ht]
  simp only [Result.andThen]
  rw [Sem.run_bind]
  simp only [Sem.run_bind, hg, Result.andThen, Sem.run_pure, K.chk, findKey_run K]
  cases hF : findE k es 0 with
  | none =>
    rw [hF] at hfe
    have : f k = none := by simpa using hfe.symm
    simp [this, hz, Result.andThen]
  | some p =>
    obtain ⟨i, v⟩ := p
    rw [hF] at hfe
    have : f k = some v := by simpa using hfe.symm
    simp [this]


def upd (k : κ) (v : Value) : List (Ent κ) → List (Ent κ)
  | [] => []
  | e :: es => if k = e.1 then (e.1, v, e.2.2) :: es else e :: upd k v es
def del (k : κ) : List (Ent κ) → List (Ent κ)
  | [] => []
  | e :: es => if k = e.1 then es else e :: del k es

theorem findE_ge (k : κ) : ∀ (es : List (Ent κ)) (j i : Nat) (v : Value), findE k es j = some (i, v) → j ≤ i ∧ i < j + es.length
  | [], j, i, v, h => by simp [findE] at h
  | e :: es, j, i, v, h => by
    by_cases hk : k = e.1
    · simp [findE, hk] at h; simp; omega
    · simp only [findE, hk, if_false] at h
      have := findE_ge k es (j + 1) i v h
      simp; omega

theorem upd_modify (enc : κ → Value) (k : κ) (v : Value) : ∀ (es : List (Ent κ)) (j i : Nat) (u : Value), findE k es j = some (i, u) →
    (es.map (mkE enc)).modify (i - j) (fun e => { e with key := enc k, val := v }) = (upd k v es).map (mkE enc)
  | [], j, i, u, h => by simp [findE] at h
  | e :: es, j, i, u, h => by
    by_cases hk : k = e.1
    · simp [findE, hk] at h
      obtain ⟨rfl, _⟩ := h
      simp [upd, hk, mkE]
    · simp only [findE, hk, if_false] at h
      have hle := (findE_ge k es (j + 1) i u h).1
      obtain ⟨m, hm⟩ : ∃ m, i - j = m + 1 := ⟨i - j - 1, by omega⟩
      have ih := upd_modify enc k v es (j + 1) i u h
      have hm2 : i - (j + 1) = m := by omega
      rw [hm2] at ih
      rw [hm]
      simp [upd, hk, ih]

theorem del_erase (enc : κ → Value) (k : κ) : ∀ (es : List (Ent κ)) (j i : Nat) (u : Value), findE k es j = some (i, u) →
    (es.map (mkE enc)).eraseIdx (i - j) = (del k es).map (mkE enc)
  | [], j, i, u, h => by simp [findE] at h
  | e :: es, j, i, u, h => by
    by_cases hk : k = e.1
    · simp [findE, hk] at h
      obtain ⟨rfl, _⟩ := h
      simp [del, hk]
    · simp only [findE, hk, if_false] at h
      have hle := (findE_ge k es (j + 1) i u h).1
      obtain ⟨m, hm⟩ : ∃ m, i - j = m + 1 := ⟨i - j - 1, by omega⟩
      have ih := del_erase enc k es (j + 1) i u h
      have hm2 : i - (j + 1) = m := by omega
      rw [hm2] at ih
      rw [hm]
      simp [del, hk, ih]

theorem getE_upd (k k' : κ) (v : Value) : ∀ es : List (Ent κ), (∃ u, getE es k = some u) → getE (upd k v es) k' = if k' = k then some v else getE es k'
  | [], h => by obtain ⟨u, h⟩ := h; simp [getE] at h
  | e :: es, h => by
    by_cases hk : k = e.1
    · subst hk
      by_cases h' : k' = e.1
      · simp [upd, getE, h']
      · simp [upd, getE, h']
    · have h2 : ∃ u, getE es k = some u := by obtain ⟨u, h⟩ := h; exact ⟨u, by simpa [getE, hk] using h⟩
      have ih := getE_upd k k' v es h2
      by_cases h' : k' = e.1
      · have : ¬ k' = k := fun e2 => hk (e2.symm.trans h')
        simp [upd, hk, getE, h']
        intro e3; exact absurd e3.symm hk
      · simpa [upd, hk, getE, h'] using ih
theorem upd_keys (k : κ) (v : Value) : ∀ es : List (Ent κ), (upd k v es).map Prod.fst = es.map Prod.fst
  | [] => rfl
  | e :: es => by
    by_cases hk : k = e.1
    · simp [upd, hk]
    · simp [upd, hk, upd_keys k v es]
theorem getE_none {k : κ} : ∀ {es : List (Ent κ)}, getE es k = none ↔ ∀ e ∈ es, k ≠ e.1
  | [] => by simp [getE]
  | e :: es => by
    by_cases hk : k = e.1
    · simp [getE, hk]
    · have := @getE_none k es
      simp [getE, hk] at this ⊢
theorem del_sub (k : κ) : ∀ es : List (Ent κ), List.Sublist (del k es) es
  | [] => List.Sublist.slnil
  | e :: es => by
    by_cases hk : k = e.1
    · simp [del, hk]
    · simp only [del, hk, if_false]; exact (del_sub k es).cons_cons _
theorem getE_del (k k' : κ) : ∀ es : List (Ent κ), (es.map Prod.fst).Nodup → getE (del k es) k' = if k' = k then none else getE es k'
  | [], _ => by simp [del, getE]
  | e :: es, h => by
    simp only [List.map_cons, List.nodup_cons] at h
    by_cases hk : k = e.1
    · subst hk
      by_cases h' : k' = e.1
      · subst h'
        simp only [del, if_true]
        rw [getE_none]
        intro x hx e1
        exact h.1 (by rw [e1]; exact List.mem_map.2 ⟨x, hx, rfl⟩)
      · simp [del, getE, h']
    · have ih := getE_del k k' es h.2
      by_cases h' : k' = e.1
      · have : ¬ k' = k := fun e2 => hk (e2.symm.trans h')
        simp [del, hk, getE, h']
        intro e3; exact absurd e3.symm hk
      · simpa [del, hk, getE, h'] using ih
theorem getE_push (k k' : κ) (v : Value) (c : Nat) : ∀ es : List (Ent κ), getE es k = none → getE (es ++ [(k, v, c)]) k' = if k' = k then some v else getE es k'
  | [], _ => by
    by_cases h : k' = k <;> simp [getE, h]
  | e :: es, h => by
    have hk : ¬ k = e.1 := by rw [getE_none] at h; exact h e (by simp)
    have h2 : getE es k = none := by simpa [getE, hk] using h
    have ih := getE_push k k' v c es h2
    by_cases h' : k' = e.1
    · have : ¬ k' = k := fun e2 => hk (e2.symm.trans h')
      simp [getE, h']
      intro e3; exact absurd e3.symm hk
    · simpa [getE, h'] using ih

def setBlk (w : World) (b : Nat) (o : Obj) : World := { w with heap := w.heap.setIfInBounds b o }
theorem setBlk_grown (w : World) (b : Nat) (o : Obj) : w.grownBy (setBlk w b o) (some b) :=
  ⟨rfl, rfl, rfl, by simp [setBlk], fun i _ hi => by
    simp only [setBlk]
    rw [Array.getElem?_setIfInBounds_ne]
    intro e; exact hi (by rw [e])⟩
theorem setBlk_same {w : World} {b : Nat} (h : b < w.heap.size) (o : Obj) : (setBlk w b o).heap[b]? = some o := by
  simp [setBlk, h]
theorem run_setObj_blk {w : World} {b : Nat} {es : Array MapEntry} {clock : Nat} (o : Obj) (h : w.heap[b]? = some (.map es clock)) : (setObj b o).run P w = .ok () (setBlk w b o) := by
  simp [setObj, Sem.run, h, setBlk]

/-- m[k] = v -/
theorem MapAt.update {w : World} {enc : κ → Value} {b n : Nat} {f : κ → Option Value} (h : MapAt w enc b n f) {t kt e : TypeId} (K : KeyOK P kt enc) (ht : P.underlying t = some (.map kt e)) (k : κ) (v : Value) :
    ∃ w', (Instr.mapUpdate t (.map (some b)) (enc k) v).run P w = .ok () w' ∧ MapAt w' enc b (n + 1) (fun k' => if k' = k then some v else f k') ∧ w.grownBy w' (some b) := by
  have hlt := h.lt
  obtain ⟨es, clock, hb, hn, hs, hf⟩ := h
  have hg : (getObj b).run P w = .ok (.map (es.map (mkE enc)).toArray clock) w := by simp [getObj, Sem.run, hb]
  have hfe := findE_get k es 0
  rw [← hf k] at hfe
  cases hF : findE k es 0 with
  | none =>
    refine ⟨setBlk w b (.map ((es ++ [(k, v, clock)]).map (mkE enc)).toArray (clock + 1)), ?_, ⟨es ++ [(k, v, clock)], clock + 1, setBlk_same hlt _, ?_, by simp; omega, ?_⟩, setBlk_grown _ _ _⟩
    · simp only [Instr.mapUpdate]
      rw [Sem.run_bind, run_underlying ht]
      simp only [Result.andThen, Sem.run_bind, hg, K.chk, findKey_run K, hF]
      rw [run_setObj_blk _ hb]
      simp [mkE]
    · have hnone : getE es k = none := by rw [← hf k]; rw [hF] at hfe; simpa using hfe.symm
      rw [getE_none] at hnone
      rw [List.map_append, List.nodup_append]
      refine ⟨hn, by simp, ?_⟩
      intro a ha c hc e1
      simp at hc
      subst hc e1
      obtain ⟨x, hx, rfl⟩ := List.mem_map.1 ha
      exact hnone x hx rfl
    · intro k'
      have hnone : getE es k = none := by rw [← hf k]; rw [hF] at hfe; simpa using hfe.symm
      show (if k' = k then some v else f k') = _
      rw [getE_push k k' v clock es hnone, hf k']
  | some p =>
    obtain ⟨i, u⟩ := p
    have hget : getE es k = some u := by rw [← hf k]; rw [hF] at hfe; simpa using hfe.symm
    have hmod := upd_modify enc k v es 0 i u hF
    rw [Nat.sub_zero] at hmod
    refine ⟨setBlk w b (.map ((upd k v es).map (mkE enc)).toArray clock), ?_, ⟨upd k v es, clock, setBlk_same hlt _, by rw [upd_keys]; exact hn, ?_, ?_⟩, setBlk_grown _ _ _⟩
    · have hkey : ((((es.map (mkE enc)).toArray)[i]?).map (·.key)).getD (enc k) = enc k := by
        have hi := (findE_ge k es 0 i u hF).2
        have : ∀ (es : List (Ent κ)) (j i : Nat) (u : Value), findE k es j = some (i, u) → ((es.map (mkE enc))[i - j]?).map (·.key) = some (enc k) := by
          intro es
          induction es with
          | nil => intro j i u h; simp [findE] at h
          | cons e es ih =>
            intro j i u h
            by_cases hk : k = e.1
            · simp [findE, hk] at h
              obtain ⟨rfl, _⟩ := h
              simp [mkE, hk]
            · simp only [findE, hk, if_false] at h
              have hle := (findE_ge k es (j + 1) i u h).1
              obtain ⟨m, hm⟩ : ∃ m, i - j = m + 1 := ⟨i - j - 1, by omega⟩
              have := ih (j + 1) i u h
              have hm2 : i - (j + 1) = m := by omega
              rw [hm2] at this
              rw [hm]
              simpa using this
        have h2 := this es 0 i u hF
        rw [Nat.sub_zero] at h2
        simp only [List.getElem?_toArray]
        rw [h2]
        rfl
      simp only [Instr.mapUpdate]
      rw [Sem.run_bind, run_underlying ht]
      simp only [Result.andThen, Sem.run_bind, hg, K.chk, findKey_run K, hF, hkey, keyThatStays, K.bits, if_true, Sem.run_pure]
      rw [run_setObj_blk _ hb]
      simp [List.modify_toArray, hmod]
    · have : (upd k v es).length = es.length := by have := congrArg List.length (upd_keys k v es); simpa using this
      omega
    · intro k'
      show (if k' = k then some v else f k') = _
      rw [getE_upd k k' v es ⟨u, hget⟩, hf k']

/-- delete(m, k) -/
theorem MapAt.delete {w : World} {enc : κ → Value} {b n : Nat} {f : κ → Option Value} (h : MapAt w enc b n f) {t kt e ty : TypeId} (K : KeyOK P kt enc) (ht : P.underlying t = some (.map kt e)) (k : κ) (ats : Array TypeId) (hats : ats[0]? = some t) :
    ∃ w', (Builtin.delete_ ats ty #[.map (some b), enc k]).run P w = .ok (.tuple #[]) w' ∧ MapAt w' enc b n (fun k' => if k' = k then none else f k') ∧ w.grownBy w' (some b) := by
  have hlt := h.lt
  obtain ⟨es, clock, hb, hn, hs, hf⟩ := h
  have hg : (getObj b).run P w = .ok (.map (es.map (mkE enc)).toArray clock) w := by simp [getObj, Sem.run, hb]
  have hfe := findE_get k es 0
  rw [← hf k] at hfe
  cases hF : findE k es 0 with
  | none =>
    have hnone : getE es k = none := by rw [← hf k]; rw [hF] at hfe; simpa using hfe.symm
    refine ⟨setBlk w b (.map (es.map (mkE enc)).toArray clock), ?_, ⟨es, clock, setBlk_same hlt _, hn, hs, ?_⟩, setBlk_grown _ _ _⟩
    · simp only [Builtin.delete_, hats, List.getElem?_toArray, List.getElem?_cons_zero, List.getElem?_cons_succ]
      rw [Sem.run_bind, run_underlying ht]
      simp only [Result.andThen, Sem.run_bind, hg, K.chk, findKey_run K, hF, Sem.run_pure]
      rw [run_setObj_blk _ hb]
    · intro k'
      by_cases hk : k' = k
      · subst hk; simp [hnone]
      · simp [hk, hf]
  | some p =>
    obtain ⟨i, u⟩ := p
    have her := del_erase enc k es 0 i u hF
    rw [Nat.sub_zero] at her
    have hi := (findE_ge k es 0 i u hF).2
    refine ⟨setBlk w b (.map ((del k es).map (mkE enc)).toArray clock), ?_, ⟨del k es, clock, setBlk_same hlt _, ((del_sub k es).map Prod.fst).nodup hn, Nat.le_trans (del_sub k es).length_le hs, ?_⟩, setBlk_grown _ _ _⟩
    · simp only [Builtin.delete_, hats, List.getElem?_toArray, List.getElem?_cons_zero, List.getElem?_cons_succ]
      rw [Sem.run_bind, run_underlying ht]
      simp only [Result.andThen, Sem.run_bind, hg, K.chk, findKey_run K, hF, Sem.run_pure]
      rw [run_setObj_blk _ hb]
      have : ((es.map (mkE enc)).toArray).eraseIdxIfInBounds i = ((del k es).map (mkE enc)).toArray := by
        unfold Array.eraseIdxIfInBounds
        rw [dif_pos (by simpa using hi)]
        simp [her]
      rw [this]
    · intro k'
      show (if k' = k then none else f k') = _
      rw [getE_del k k' es hn, hf k']
end Go.Proofs.YtfhmepdbbhcncaaM
