import Derived.Test.YtfhmepdbbhcncaaE4
import Derived.Lib.SliceRun
import Derived.Laws.IdiomCopy
import Derived.RangeFuncBox
namespace Go.Proofs.Ytfhmepdbbhcncaa.P
open Go.RowKit Go.Proofs.YtfhmepdbbhcncaaW.PrintWords Go.Proofs.YtfhmepdbbhcncaaW.PrintLast Go.Proofs.YtfhmepdbbhcncaaW.PrintMore
set_option linter.unusedVariables false
set_option linter.unusedSimpArgs false

/-- Block b: cells of type t. -/
def Blk (W : World) (b : Nat) (t : TypeId) (cur : Array Value) : Prop := W.heap[b]? = some (.cells cur t (0, 0))
section
variable {W W' : World} {b : Nat} {t : TypeId} {cur : Array Value}
theorem Blk.lt (h : Blk W b t cur) : b < W.heap.size := (Array.getElem?_eq_some_iff.1 h).1
theorem Blk.cell (h : Blk W b t cur) (j : Nat) : W.cell? ⟨b, j, none⟩ = cur[j]? := by simp [World.cell?, show W.heap[b]? = _ from h]
theorem Blk.fz (h : Blk W b t cur) (j : Nat) : W.frozen? ⟨b, j, none⟩ = false := by simp [World.frozen?, show W.heap[b]? = _ from h]
theorem Blk.set (h : Blk W b t cur) (j : Nat) (v : Value) : Blk (W.setCell ⟨b, j, none⟩ v) b t (cur.setIfInBounds j v) := by
  obtain ⟨hlt, hk⟩ := Array.getElem?_eq_some_iff.1 h
  show (W.heap.modify b _)[b]? = _
  rw [Array.getElem?_eq_getElem (by rw [Array.size_modify]; exact hlt), Array.getElem_modify_self, hk]
  rfl
theorem Blk.kept {row : Option Nat} (h : Blk W b t cur) (hg : W.grownBy W' row) (hne : some b ≠ row) : Blk W' b t cur := (hg.block b h.lt hne).trans h
theorem Blk.below {B : Nat} (h : Blk W b t cur) (hb : Below B W W') (hB : b < B) : Blk W' b t cur := (hb.block b hB).trans h
theorem Blk.alloc (h : Blk W b t cur) (o : Obj) : Blk (W.alloc o) b t cur := h.kept (World.grownBy_alloc W o none) (by simp)
theorem Blk.new (W : World) (cur : Array Value) (t : TypeId) : Blk (W.alloc (.cells cur t)) W.heap.size t cur := World.alloc_heap_new W _
theorem Blk.other (h : Blk W b t cur) {p : Addr} (hp : b ≠ p.block) (v : Value) : Blk (W.setCell p v) b t cur := blk_far h hp v
theorem grown_set (W : World) (b j : Nat) (v : Value) : W.grownBy (W.setCell ⟨b, j, none⟩ v) (some b) :=
  ⟨rfl, rfl, rfl, (KeepsWalks.setCell W _ v).size, fun k _ hk => Below.heap_setCell _ _ _ k (fun e => hk (by rw [e]))⟩
theorem Blk.sets (vs : List Value) : ∀ (o : Nat) (W : World) (cur : Array Value), Blk W b t cur → o + vs.length ≤ cur.size →
    ∃ cur', Blk (W.setCells b o vs) b t cur' ∧ cur'.size = cur.size ∧ (∀ j, j < o → cur'[j]? = cur[j]?) ∧ (∀ j, j < vs.length → cur'[o + j]? = vs[j]?) ∧ (∀ j, o + vs.length ≤ j → cur'[j]? = cur[j]?) ∧ W.grownBy (W.setCells b o vs) (some b) := by
  induction vs with
  | nil => exact fun o W cur h _ => ⟨cur, h, rfl, fun _ _ => rfl, fun j hj => absurd hj (Nat.not_lt_zero _), fun _ _ => rfl, ⟨rfl, rfl, rfl, Nat.le_refl _, fun _ _ _ => rfl⟩⟩
  | cons v vs ih =>
    intro o W cur h hs
    simp only [List.length_cons] at hs
    obtain ⟨cur', h1, h2, h3, h4, h5, h6⟩ := ih (o + 1) _ _ (h.set o v) (by simp; omega)
    refine ⟨cur', h1, by simpa using h2, fun j hj => ?_, fun j hj => ?_, fun j hj => ?_, (grown_set W b o v).trans h6⟩
    · rw [h3 j (by omega)]; simp [Array.getElem?_setIfInBounds]; omega
    · cases j with
      | zero =>
        rw [Nat.add_zero, h3 o (by omega)]
        simp [Array.getElem?_setIfInBounds]; omega
      | succ j =>
        have := h4 j (by simpa using hj)
        rw [show o + (j + 1) = o + 1 + j by omega, this]
        simp
    · simp only [List.length_cons] at hj
      rw [h5 j (by omega)]; simp [Array.getElem?_setIfInBounds]; omega
end

/-- Block b is an array of cap cells of type t, the first of which hold the numbers ys. -/
structure RowC (W : World) (b : Nat) (t : TypeId) (cap : Nat) (ys : List Int) : Prop where
  ex : ∃ cur, Blk W b t cur ∧ cur.size = cap ∧ ∀ j (h : j < ys.length), cur[j]? = some (.int .i64 ys[j])
  le : ys.length ≤ cap
  cap_le : cap ≤ maxLen
section
variable {W W' : World} {b : Nat} {t : TypeId} {cap : Nat} {ys : List Int}
theorem RowC.lt (h : RowC W b t cap ys) : b < W.heap.size := by obtain ⟨cur, hb, _⟩ := h.ex; exact hb.lt
theorem RowC.cell (h : RowC W b t cap ys) (j : Nat) (hj : j < ys.length) : W.cell? ⟨b, j, none⟩ = some (.int .i64 ys[j]) := by
  obtain ⟨cur, hb, _, hc⟩ := h.ex; rw [hb.cell]; exact hc j hj
theorem RowC.fz (h : RowC W b t cap ys) (j : Nat) : W.frozen? ⟨b, j, none⟩ = false := by obtain ⟨cur, hb, _⟩ := h.ex; exact hb.fz j
theorem RowC.set (h : RowC W b t cap ys) (j : Nat) (hj : j < ys.length) (v : Int) : RowC (W.setCell ⟨b, j, none⟩ (.int .i64 v)) b t cap (ys.set j v) := by
  obtain ⟨cur, hb, hs, hc⟩ := h.ex
  refine ⟨⟨_, hb.set j _, by simpa using hs, fun i hi => ?_⟩, by simpa using h.le, h.cap_le⟩
  have hi' : i < ys.length := by simpa using hi
  rw [Array.getElem?_setIfInBounds, List.getElem_set]
  by_cases e : j = i
  · subst e; have := h.le; simp [hs]; omega
  · simp [e]; exact hc i hi'
theorem RowC.kept {row : Option Nat} (h : RowC W b t cap ys) (hg : W.grownBy W' row) (hne : some b ≠ row) : RowC W' b t cap ys := by
  obtain ⟨cur, hb, hs, hc⟩ := h.ex
  exact ⟨⟨cur, hb.kept hg hne, hs, hc⟩, h.le, h.cap_le⟩
theorem RowC.below {B : Nat} (h : RowC W b t cap ys) (hb : Below B W W') (hB : b < B) : RowC W' b t cap ys := by
  obtain ⟨cur, h1, hs, hc⟩ := h.ex
  exact ⟨⟨cur, h1.below hb hB, hs, hc⟩, h.le, h.cap_le⟩
theorem RowC.reads (h : RowC W b t cap ys) : Kd.C (Kd.int .i64) W (some ⟨b, 0, none⟩) ys.length ys :=
  kdC_int ys (by have := h.le; have := h.cap_le; unfold maxLen at *; omega) (fun j hj => h.cell j hj)
theorem RowC.take (h : RowC W b t cap ys) (m : Nat) : RowC W b t cap (ys.take m) := by
  obtain ⟨cur, hb, hs, hc⟩ := h.ex
  refine ⟨⟨cur, hb, hs, fun j hj => ?_⟩, by have := h.le; simp; omega, h.cap_le⟩
  have hj' : j < ys.length := by simp at hj; omega
  rw [hc j hj']; simp
theorem RowC.own {base : Nat} (h : RowC W b t cap ys) (hb : base ≤ b) : W.ownsRow base t 1 (.slice (some ⟨b, 0, none⟩) ys.length cap) ys.length (ys.map (Value.int .i64)) := by
  obtain ⟨cur, hk, hs, hc⟩ := h.ex
  refine ⟨by simp, .inr ⟨b, cap, cur, rfl, hb, hk, h.le, h.cap_le, by omega, ?_⟩⟩
  apply List.ext_getElem
  · have := h.le; simp; omega
  · intro i h1 h2
    have hi : i < ys.length := by simpa using h2
    have := hc i hi
    rw [Array.getElem?_eq_some_iff] at this
    obtain ⟨h3, h4⟩ := this
    simp [h4]
theorem RowC.of_own {base : Nat} {v : Value} {n : Nat} (h : W.ownsRow base t 1 v n (ys.map (Value.int .i64))) (hn : 0 < n) : ∃ b cap, v = .slice (some ⟨b, 0, none⟩) n cap ∧ base ≤ b ∧ ys.length = n ∧ RowC W b t cap ys := by
  obtain ⟨h1, ⟨rfl, h0⟩ | ⟨g, cap, cur, rfl, hg, hk, hle, hcm, hs, ht⟩⟩ := h
  · omega
  · have hl : ys.length = n := by simpa using h1
    refine ⟨g, cap, rfl, hg, hl, ⟨⟨cur, hk, by omega, fun j hj => ?_⟩, by omega, hcm⟩⟩
    have : (cur.toList.take (n * 1))[j]? = (ys.map (Value.int .i64))[j]? := by rw [ht]
    rw [List.getElem?_take_of_lt (by omega)] at this
    simpa [hj] using this
end
end Go.Proofs.Ytfhmepdbbhcncaa.P
