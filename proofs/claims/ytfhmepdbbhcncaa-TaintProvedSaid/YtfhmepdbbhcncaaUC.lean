import Derived.Test.YtfhmepdbbhcncaaXW
import Derived.Test.YtfhmepdbbhcncaaT1
namespace Go.Proofs.Ytfhmepdbbhcncaa.P
open Go.RowKit Go.Shelf Go.Proofs.YtfhmepdbbhcncaaW.PrintWords Go.Proofs.YtfhmepdbbhcncaaW.PrintLast Go.Proofs.YtfhmepdbbhcncaaW.PrintMore Go.Proofs.YtfhmepdbbhcncaaM Go.Proofs.YtfhmepdbbhcncaaR
set_option linter.unusedVariables false
set_option linter.unusedSimpArgs false
set_option maxRecDepth 100000

/-- A law's yard and start in their boxes. -/
structure PY (w W : World) (n sv st : Int) (A : Option Addr) (c : Nat) (l : List S58) : Prop where
  y : Blk W w.heap.size 24 #[.int .i64 n, .slice A l.length c]
  s : Blk W (w.heap.size + 1) 26 #[.int .i64 sv, .int .i64 st]
  C : Kd.C k58 W A l.length l
  hc : l.length ≤ c
  g : Below w.heap.size w W
section
variable {w W W' : World} {n sv st : Int} {A : Option Addr} {c : Nat} {l : List S58}
theorem PY.below (h : PY w W n sv st A c l) (hb : Below W.heap.size W W') : PY w W' n sv st A c l :=
  ⟨h.y.below hb h.y.lt, h.s.below hb h.s.lt, Kd.C_below h.C hb, h.hc, below_then h.g h.g.size hb⟩
theorem PY.drew (h : PY w W n sv st A c l) (hd : Drawn0 W W') : PY w W' n sv st A c l := h.below (drawn_below hd)
theorem PY.init (w : World) (n sv st : Int) (A : Option Addr) (c : Nat) (l : List S58) (hC : Kd.C k58 w A l.length l) (hc : l.length ≤ c) : PY w ((w.alloc (.cells #[.int .i64 n, .slice A l.length c] 24)).alloc (.cells #[.int .i64 sv, .int .i64 st] 26)) n sv st A c l := by
  have b0 := (Blk.new w #[.int .i64 n, .slice A l.length c] 24).alloc (.cells #[.int .i64 sv, .int .i64 st] 26)
  have b1 := Blk.new (w.alloc (.cells #[.int .i64 n, .slice A l.length c] 24)) #[.int .i64 sv, .int .i64 st] 26
  simp only [World.size_alloc] at b1
  exact ⟨b0, b1, Kd.C_below hC (boxes2 _ _ _), hc, boxes2 _ _ _⟩
end
def inB (u : List Int) (v : Int) : Bool := u.any fun x => x == v
theorem inB_iff (u : List Int) (v : Int) : inB u v = true ↔ v ∈ u := by
  unfold inB
  rw [List.any_eq_true]
  constructor
  · rintro ⟨x, hx, e⟩
    rw [beq_iff_eq] at e
    subst e
    exact hx
  · intro h
    exact ⟨v, h, by simp⟩
theorem inB_succ (u : List Int) (j : Nat) (hj : j < u.length) (v : Int) : inB (u.take (j + 1)) v = (inB (u.take j) v || (u[j] == v)) := by
  unfold inB
  rw [List.take_succ_eq_append_getElem hj, List.any_append]
  simp
end Go.Proofs.Ytfhmepdbbhcncaa.P
