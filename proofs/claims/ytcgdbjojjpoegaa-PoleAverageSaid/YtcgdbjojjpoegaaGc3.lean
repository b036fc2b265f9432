/- Texts of this claim, joined: E15, E16, E17, E18, E19, R, M, E21, E22, E23, E24, E25, E26, E27, E28, E29, E30, E20, E31. -/
import Derived.Test.YtcgdbjojjpoegaaGc2
import Derived.StillTail
import Derived.StillTailTactics
import Derived.OrdersIn
import Derived.TacticsIn
import Derived.Lib.QuietBelow
import Derived.WalkKit
import Derived.MapKept
import Derived.WideLaws
import Derived.OwnWalk
import Derived.Carry
import Derived.Below
import Derived.RangeFuncOwn
import Derived.RangeFuncNested
import Derived.RangeFuncBound
import Derived.RangeFuncCalls
import Derived.RangeFuncLeaves
import Derived.Shelf.AbstractIn
import Derived.Shelf.RegionOpen
import Derived.OwnWalkIn
import Derived.TacticsInMore
import Derived.LoopNIn
import Derived.LoopIn
import Derived.Sort.LoopGhostIn
import Derived.ChangeKeysEq
import Derived.Laws.EntriesVeiled
import Derived.BigQuiet
import Derived.Sort.CutIn
import Derived.Deep.MidRow
import Derived.Deep.WholeRow
namespace Go.Proofs.Ytcgdbjojjpoegaa.P
open Go.RowKit Go.Proofs.YtcgdbjojjpoegaaW.PrintWords Go.Proofs.YtcgdbjojjpoegaaW.PrintLast Go.Proofs.YtcgdbjojjpoegaaW.PrintMore
set_option linter.unusedVariables false
set_option linter.unusedSimpArgs false

def amAt (am : List Am) (i : Int) : Am := am.getD i.toNat ⟨0, 0, 0⟩
theorem amAt_nat (am : List Am) (i : Nat) (hi : i < am.length) : amAt am (i : Int) = am[i] := by
  simp [amAt, List.getD_eq_getElem?_getD, List.getElem?_eq_getElem hi]
/-- whether an amount of a way becomes more -/
def growsF (am : List Am) (more : Bool) (s : S117) : Bool := ((amAt am s.f0).fr == s.f1) == more
/-- by how much it can -/
def roomT (den : Int) (am : List Am) (more : Bool) (s : S117) : Int := roomF den (amAt am s.f0) (growsF am more s)
section
variable {W W' : World} {B base : Nat} {den : Int} {vc : Value} {bA cA : Nat} {am : List Am} {seen : List Int} {gb gm : Nat} {more : Bool}
set_option maxHeartbeats 400000 in
set_option maxRecDepth 100000 in
theorem grows_calls (h : Bk W B base den vc bA cA am seen) (b1 : W.heap[gb]? = some (.cells #[.pointer (some ⟨B, 0, none⟩)] 90 (0, 0))) (b2 : W.heap[gm]? = some (.cells #[.bool more] 4 (0, 0))) (i : Nat) (hi : i < am.length) (f t : Int) :
    Calls Try.prog 88 #[.agg #[.int .i64 (i : Int), .int .i64 f, .int .i64 t], .pointer (some ⟨gb, 0, none⟩), .pointer (some ⟨gm, 0, none⟩)] W fun e w' => e = .returned (.bool (growsF am more ⟨i, f, t⟩)) ∧ Below W.heap.size W w' := by
  have hb := below_alloc (Below.refl W.heap.size W) (.cells #[.int .i64 (i : Int), .int .i64 f, .int .i64 t] 117)
  have h' := h.below hb
  have x2 := h'.at_.c2
  obtain ⟨hc, _, _⟩ := h'.cell i hi
  have hle := h'.len_le
  have hi2 : (i : Int) < (am.length : Int) := by omega
  have hlen : am.length ≤ 9223372036854775807 := by omega
  have y1 : (W.alloc (.cells #[.int .i64 (i : Int), .int .i64 f, .int .i64 t] 117)).cell? ⟨gb, 0, none⟩ = some (.pointer (some ⟨B, 0, none⟩)) := (blk_cell (blk_below b1 hb) 0).trans rfl
  have y2 : (W.alloc (.cells #[.int .i64 (i : Int), .int .i64 f, .int .i64 t] 117)).cell? ⟨gm, 0, none⟩ = some (.bool more) := (blk_cell (blk_below b2 hb) 0).trans rfl
  have y3 : (W.alloc (.cells #[.int .i64 (i : Int), .int .i64 f, .int .i64 t] 117)).cell? ⟨W.heap.size, 0, none⟩ = some (.int .i64 (i : Int)) := (blk_cell (blk_new W _) 0).trans rfl
  have y4 : (W.alloc (.cells #[.int .i64 (i : Int), .int .i64 f, .int .i64 t] 117)).cell? ⟨W.heap.size, 1, none⟩ = some (.int .i64 f) := (blk_cell (blk_new W _) 1).trans rfl
  have EB := Lib.hid (show growsF am more ⟨i, f, t⟩ = ((am[i].fr == f) == more) by rw [growsF, amAt_nat am i hi])
  have HB := Lib.hid hb
  clear h h' hle hb b1 b2
  generalize growsF am more ⟨i, f, t⟩ = bv at *
  generalize am[i].fr = x at *
  go_enter Try.func88, Try.ntmps88
  go_upto_region 1 with (fail)
  generalize W.alloc (.cells #[.int .i64 (i : Int), .int .i64 f, .int .i64 t] 117) = W1 at *
  obtain ⟨g3, eg⟩ : ∃ g, W.heap.size = g := ⟨_, rfl⟩
  rw [eg] at y3 y4 ⊢
  replace eg := Lib.hid eg
  go_quiet (fail)
  go_wp2
  go_ret
  exact ⟨(by rw [EB.out]; rfl), below_dN HB.out _⟩
def roomT90.T1 : Bool × List (List Nat × List Nat) := (true, [([], []), ([], []), ([1], [1]), ([], []), ([], []), ([3, 4], [3, 4]), ([0, 2, 5, 5], [0, 2, 5]), ([6, 6, 0, 1, 2, 3, 4, 5, 6], [6])])
def roomT90.B1 : List Nat := [0, 0, 2, 0, 0, 24, 63, 127]
theorem roomT90.tab1 : rtab .any (opsOf Try.f90 1) = roomT90.T1 := by kernel_rfl
theorem roomT90.bits1 : waitsOk roomT90.T1.2 roomT90.B1 = true := by kernel_rfl
set_option maxHeartbeats 1000000 in
set_option maxRecDepth 100000 in
theorem roomT_calls {gw : Nat} (h : Bk W B base den vc bA cA am seen) (b1 : W.heap[gb]? = some (.cells #[.pointer (some ⟨B, 0, none⟩)] 90 (0, 0))) (b2 : W.heap[gm]? = some (.cells #[.bool more] 4 (0, 0)))
    (b3 : W.heap[gw]? = some (.cells #[.func (.func 88) #[] #[.pointer (some ⟨gb, 0, none⟩), .pointer (some ⟨gm, 0, none⟩)]] 119 (0, 0))) (hd : den ≠ 0) (i : Nat) (hi : i < am.length) (f t : Int) :
    Calls Try.prog 90 #[.agg #[.int .i64 (i : Int), .int .i64 f, .int .i64 t], .pointer (some ⟨gb, 0, none⟩), .pointer (some ⟨gw, 0, none⟩)] W fun e w' => e = .returned (.int .i64 (roomT den am more ⟨i, f, t⟩)) ∧ Below W.heap.size W w' := by
  have hb := below_alloc (Below.refl W.heap.size W) (.cells #[.int .i64 (i : Int), .int .i64 f, .int .i64 t] 117)
  have H := Lib.hid (h.below hb)
  have y1 := blk_below b1 hb
  have y2 := blk_below b2 hb
  have y3 := blk_below b3 hb
  have y4 := blk_new W (.cells #[.int .i64 (i : Int), .int .i64 f, .int .i64 t] 117)
  have EB := Lib.hid (show roomT den am more ⟨i, f, t⟩ = roomF den am[i] (growsF am more ⟨i, f, t⟩) by rw [roomT, amAt_nat am i hi])
  have HB := Lib.hid hb
  have EG := enters_of (P := Try.prog) Try.func88 (by kernel_rfl) rfl
  clear h hb b1 b2 b3
  generalize roomT den am more ⟨i, f, t⟩ = bv at *
  go_enter Try.func90, Try.ntmps90
  go_upto_region 1 with (fail)
  generalize W.alloc (.cells #[.int .i64 (i : Int), .int .i64 f, .int .i64 t] 117) = W1 at *
  obtain ⟨g3, eg⟩ : ∃ g, W.heap.size = g := ⟨_, rfl⟩
  rw [eg] at y4 ⊢
  replace eg := Lib.hid eg
  obtain ⟨Wd, ed⟩ : ∃ Wd, W1.drew = Wd := ⟨_, rfl⟩
  have hd0 : Below W1.heap.size W1 Wd := by rw [← ed]; exact below_drew (Below.refl _ _)
  have z1 := blk_below y1 hd0
  have z2 := blk_below y2 hd0
  have z3 := blk_below y3 hd0
  have z4 := blk_below y4 hd0
  refine sA_ 8 (fun w' => (w'.cell? ⟨gb, 0, none⟩ = some (.pointer (some ⟨B, 0, none⟩)) ∧ w'.cell? ⟨gw, 0, none⟩ = some (.func (.func 88) #[] #[.pointer (some ⟨gb, 0, none⟩), .pointer (some ⟨gm, 0, none⟩)])) ∧ (w'.cell? ⟨g3, 0, none⟩ = some (.int .i64 (i : Int)) ∧ w'.cell? ⟨g3, 1, none⟩ = some (.int .i64 f) ∧ w'.cell? ⟨g3, 2, none⟩ = some (.int .i64 t))) [] roomT90.tab1 roomT90.bits1 (by rw [ed]; exact ⟨⟨(blk_cell z1 0).trans rfl, (blk_cell z3 0).trans rfl⟩, (blk_cell z4 0).trans rfl, (blk_cell z4 1).trans rfl, (blk_cell z4 2).trans rfl⟩) (fun hHeld HT_ HW_ => ?_)
  rw [ed] at hHeld ⊢
  refine pA_ 1 (some 6) 8 2 ?_
  refine tD_ 0 (some 5) 8 3 ?_
  refine tD_ 2 (some 7) 8 7 ?_
  refine tD_ 3 (some 8) 8 15 ?_
  refine tD_ 4 (some 9) 8 31 ?_
  refine oA_ 5 (some 10) 8 63 (fun K hK => ?_)
  refine goesV_ EG #[.agg #[.int .i64 (i : Int), .int .i64 f, .int .i64 t]] (by rfl) rfl rfl (by rfl) b11_ ?_
  refine (grows_calls (H.out.below hd0) z1 z2 i hi f t).mono ?_
  rintro e W2 ⟨rfl, hb1⟩
  refine ⟨_, rfl, ?_⟩
  have x1 := blk_below z1 hb1
  have x3 := blk_below z3 hb1
  have x4 := blk_below z4 hb1
  refine hK.out _ _ ⟨⟨(blk_cell x1 0).trans rfl, (blk_cell x3 0).trans rfl⟩, (blk_cell x4 0).trans rfl, (blk_cell x4 1).trans rfl, (blk_cell x4 2).trans rfl⟩ (fun hHeld => ?_)
  clear hK K
  refine nA_ (some 10) ?_
  refine oA_ 6 (some 11) 8 127 (fun K hK => ?_)
  refine goes_ Try.func91 (by kernel_rfl) rfl #[.pointer (some ⟨B, 0, none⟩), .int .i64 (i : Int), .bool (growsF am more ⟨i, f, t⟩)] (by rfl) rfl rfl b11_ ?_
  refine (room_calls ((H.out.below hd0).below hb1) i hi hd (growsF am more ⟨i, f, t⟩)).mono ?_
  rintro e W3 ⟨rfl, hdr⟩
  have hb2 := drawn_below hdr
  refine ⟨_, rfl, ?_⟩
  refine hK.out _ _ ⟨⟨(blk_cell (blk_below x1 hb2) 0).trans rfl, (blk_cell (blk_below x3 hb2) 0).trans rfl⟩, (blk_cell (blk_below x4 hb2) 0).trans rfl, (blk_cell (blk_below x4 hb2) 1).trans rfl, (blk_cell (blk_below x4 hb2) 2).trans rfl⟩ (fun hHeld => ?_)
  clear hK K
  refine nA_ (some 11) ?_
  refine pA_ 7 (some 4) 8 255 ?_
  refine dA_ ?_
  have HD := Lib.hid (below_then (below_then (below_then HB.out HB.out.size hd0) (below_then HB.out HB.out.size hd0).size hb1) (below_then (below_then HB.out HB.out.size hd0) (below_then HB.out HB.out.size hd0).size hb1).size hb2)
  clear hHeld HT_ HW_ z1 z2 z3 z4 x1 x3 x4 hd0 hb1 hb2 hdr ed y1 y2 y3 y4
  go_wp2
  go_ret
  exact ⟨(by rw [EB.out]; rfl), HD.out⟩
end
end Go.Proofs.Ytcgdbjojjpoegaa.P

namespace Go.Proofs.Ytcgdbjojjpoegaa.P
open Go.RowKit Go.Shelf Go.Proofs.YtcgdbjojjpoegaaW.PrintWords Go.Proofs.YtcgdbjojjpoegaaW.PrintLast Go.Proofs.YtcgdbjojjpoegaaW.PrintMore
set_option linter.unusedVariables false
set_option linter.unusedSimpArgs false

/-- a line of a list of lines: its block, its room, its numbers -/
structure Ln where
  b : Nat
  c : Nat
  l : List Int
def Ln.v (r : Ln) : Value := .slice (some ⟨r.b, 0, none⟩) r.l.length r.c
def lines (rs : List Ln) : List (List Int) := rs.map (·.l)
/-- Lines in rows of their own. -/
structure Grid (W : World) (base : Nat) (v : Value) (rs : List Ln) : Prop where
  own : W.ownsRow base 48 1 v rs.length (rs.map Ln.v)
  rows : ∀ r ∈ rs, base ≤ r.b ∧ RowC W r.b 2 r.c r.l ∧ some r.b ≠ v.ownBlock
  nd : (rs.map (·.b)).Nodup
section
variable {W W' : World} {base : Nat} {v : Value} {rs : List Ln}
theorem lines_len (rs : List Ln) : (lines rs).length = rs.length := List.length_map _
theorem Grid.nil (W : World) (base : Nat) : Grid W base (.slice none 0 0) [] := ⟨own_nil _ _ _ _, fun r hr => by simp at hr, by simp⟩
theorem Grid.kept {row : Option Nat} (h : Grid W base v rs) (hg : W.grownBy W' row) (h1 : ∀ k, v.ownBlock = some k → some k ≠ row) (h2 : ∀ r ∈ rs, some r.b ≠ row) : Grid W' base v rs :=
  ⟨own_move h.own (fun k hk => hg.block k (own_lt h.own k hk) (h1 k hk)), fun r hr => ⟨(h.rows r hr).1, (h.rows r hr).2.1.kept hg (h2 r hr), (h.rows r hr).2.2⟩, h.nd⟩
theorem Grid.below (h : Grid W base v rs) (hb : Below W.heap.size W W') : Grid W' base v rs :=
  h.kept (grown_of_below hb none) (fun k _ => by simp) (fun r _ => by simp)
theorem Grid.old {row : Option Nat} (h : Grid W base v rs) (hg : W.grownBy W' row) (hr : ∀ k, row = some k → k < base) : Grid W' base v rs :=
  h.kept hg (fun k hk e => by have := hr k e.symm; have := own_base h.own k hk; omega) (fun r hm e => by have := hr _ e.symm; have := (h.rows r hm).1; omega)
theorem Grid.lower {base' : Nat} (h : Grid W base v rs) (hb : base' ≤ base) : Grid W base' v rs :=
  ⟨own_weaken h.own hb, fun r hr => ⟨Nat.le_trans hb (h.rows r hr).1, (h.rows r hr).2⟩, h.nd⟩
/-- The outer row's cell. -/
theorem Grid.cell {A : Option Addr} {n c : Nat} (h : Grid W base (.slice A n c) rs) (i : Nat) (hi : i < rs.length) : ∃ g, A = some ⟨g, 0, none⟩ ∧ n = rs.length ∧ base ≤ g ∧ W.cell? ⟨g, i, none⟩ = some rs[i].v := by
  obtain ⟨h1, ⟨h0, hn⟩ | ⟨g, cap, cur, h0, hg, hk, hle, hcm, hs, ht⟩⟩ := h.own
  · have := hn; omega
  injection h0 with e1 e2 e3
  subst e1 e2
  refine ⟨g, rfl, rfl, hg, ?_⟩
  rw [blk_cell hk, ← Array.getElem?_toList]
  have : (cur.toList.take (rs.length * 1))[i]? = (rs.map Ln.v)[i]? := by rw [ht]
  rw [List.getElem?_take_of_lt (by omega)] at this
  rw [this]
  simp [hi]
theorem Grid.lt (h : Grid W base v rs) : ∀ r ∈ rs, r.b < W.heap.size := fun r hr => (h.rows r hr).2.1.lt
/-- A number is set. -/
theorem Grid.set (h : Grid W base v rs) (i k : Nat) (hi : i < rs.length) (hk : k < rs[i].l.length) (x : Int) :
    Grid (W.setCell ⟨rs[i].b, k, none⟩ (.int .i64 x)) base v (rs.set i ⟨rs[i].b, rs[i].c, rs[i].l.set k x⟩) := by
  have hg := grown_set W rs[i].b k (.int .i64 x)
  have hmi : rs[i] ∈ rs := List.getElem_mem hi
  refine ⟨?_, ?_, ?_⟩
  · have e : (rs.set i ⟨rs[i].b, rs[i].c, rs[i].l.set k x⟩).map Ln.v = rs.map Ln.v := by
      apply List.ext_getElem
      · simp
      · intro j h1 h2
        simp only [List.getElem_map, List.getElem_set]
        split
        · rename_i e
          subst e
          simp [Ln.v]
        · rfl
    rw [e, List.length_set]
    exact own_move h.own (fun q hq => hg.block q (own_lt h.own q hq) (fun e => (h.rows _ hmi).2.2 (by rw [hq]; exact e.symm)))
  · intro r hr
    rcases List.mem_or_eq_of_mem_set hr with hr' | hr'
    · obtain ⟨j, hj, rfl⟩ := List.getElem_of_mem hr
      rw [List.getElem_set] at hr' ⊢
      split
      · rename_i e
        subst e
        exact ⟨(h.rows _ hmi).1, (h.rows _ hmi).2.1.set k hk x, (h.rows _ hmi).2.2⟩
      rename_i e
      have hj' : j < rs.length := by simpa using hj
      have hm := List.getElem_mem hj'
      refine ⟨(h.rows _ hm).1, (h.rows _ hm).2.1.kept hg (fun e2 => ?_), (h.rows _ hm).2.2⟩
      injection e2 with e2
      have hnd := List.pairwise_iff_getElem.1 h.nd
      rcases Nat.lt_trichotomy i j with h1 | h1 | h1
      · exact hnd i j (by simpa using hi) (by simpa using hj') h1 (by simpa using e2.symm)
      · exact e h1
      exact hnd j i (by simpa using hj') (by simpa using hi) h1 (by simpa using e2)
    subst hr'
    exact ⟨(h.rows _ hmi).1, (h.rows _ hmi).2.1.set k hk x, (h.rows _ hmi).2.2⟩
  have e : (rs.set i ⟨rs[i].b, rs[i].c, rs[i].l.set k x⟩).map (·.b) = rs.map (·.b) := by
    apply List.ext_getElem
    · simp
    · intro j h1 h2
      simp only [List.getElem_map, List.getElem_set]
      split
      · rename_i e
        subst e
        rfl
      · rfl
  rw [e]
  exact h.nd
theorem Grid.C {A : Option Addr} {n c : Nat} (h : Grid W base (.slice A n c) rs) : Kd.C (Kd.slice 2 (Kd.int .i64)) W A (lines rs).length (lines rs) := by
  have hn : rs.length ≤ 9223372036854775807 := by
    obtain ⟨h1, ⟨h0, hn⟩ | ⟨g, cap, cur, h0, hg, hk, hle, hcm, hs, ht⟩⟩ := h.own
    · have := hn; omega
    · have : maxLen = 9223372036854775807 := rfl
      omega
  rw [lines_len]
  refine ⟨lines_len rs, hn, fun hp => ?_⟩
  obtain ⟨g, e, _, _, _⟩ := h.cell 0 hp
  refine ⟨_, e, fun j p hj => ?_⟩
  obtain ⟨hj1, hj2⟩ := List.getElem?_eq_some_iff.1 hj
  have hj' : j < rs.length := by simpa [lines] using hj1
  obtain ⟨g', e', _, _, hc⟩ := h.cell j hj'
  rw [e] at e'
  injection e' with e'
  injection e' with e'
  subst e'
  have hrow := (h.rows _ (List.getElem_mem hj')).2.1
  have hp2 : p = rs[j].l := by rw [← hj2]; simp [lines]
  subst hp2
  refine ⟨[rs[j].v], rfl, ⟨_, _, rfl, hrow.le, hrow.reads⟩, fun i u hu => ?_⟩
  cases i with
  | succ i => simp at hu
  | zero => ?_
  injection hu with hu
  subst hu
  have : (⟨g, 0, none⟩ : Addr).add (j * (Kd.slice 2 (Kd.int .i64)).sz + 0) = ⟨g, j, none⟩ := by rw [Addr.add_lit]; simp [Kd.slice]
  rw [this]
  exact hc
theorem Grid.R (h : Grid W base v rs) : Kd.R (Kd.slice 2 (Kd.int .i64)) 48 W base (fun _ => True) v (lines rs) := by
  refine ⟨fun _ _ => trivial, rs.map Ln.v, (by rw [lines_len]; exact h.own), (by simp [lines, Kd.slice]), fun j p hj => ?_⟩
  obtain ⟨hj1, hj2⟩ := List.getElem?_eq_some_iff.1 hj
  have hj' : j < rs.length := by simpa [lines] using hj1
  have hp2 : p = rs[j].l := by rw [← hj2]; simp [lines]
  subst hp2
  have hrow := h.rows _ (List.getElem_mem hj')
  have e : ((rs.map Ln.v).drop (j * (Kd.slice 2 (Kd.int .i64)).sz)).take (Kd.slice 2 (Kd.int .i64)).sz = [rs[j].v] := by
    show ((rs.map Ln.v).drop (j * 1)).take 1 = _
    rw [Nat.mul_one, List.drop_eq_getElem_cons (by simpa using hj')]
    simp
  rw [e]
  refine ⟨_, rfl, Kd.R_of_own (hrow.2.1.own hrow.1) (fun k hk => ⟨trivial, ?_⟩)⟩
  have : k = rs[j].b := by simpa [Value.ownBlock, Ln.v] using hk.symm
  rw [this]
  exact hrow.2.2
theorem info48w : (Try.prog.info? 48).map (fun i => (i.zero, i.size, i.bytes)) = some (some (.slice none 0 0), 1, 24) := by kernel_rfl
/-- append of a line (whose slice lies in a block of its own) to lines. -/
theorem Grid.snoc (h : Grid W base v rs) (hl : rs.length ≤ 100000) (b c : Nat) (l : List Int) (hrow : RowC W b 2 c l) (hb : base ≤ b) (hne : some b ≠ v.ownBlock) (hnew : ∀ r ∈ rs, r.b ≠ b) (hbase : base ≤ W.heap.size) :
    ∃ A' c' w', (∀ ty, (Builtin.append_ #[37, 37] ty #[v, .slice (some ⟨W.heap.size, 0, none⟩) 1 1]).run Try.prog (W.alloc (.cells #[.slice (some ⟨b, 0, none⟩) l.length c] 48)) = .ok (.slice A' (rs.length + 1) c') w') ∧
      Grid w' base (.slice A' (rs.length + 1) c') (rs ++ [⟨b, c, l⟩]) ∧ (W.alloc (.cells #[.slice (some ⟨b, 0, none⟩) l.length c] 48)).grownBy w' v.ownBlock := by
  have hu : Try.prog.underlying 37 = some (.slice 48) := Try.underlying37
  obtain ⟨ti, hi, hz, hs, hby⟩ := info_parts info48w
  have hmx : maxLen = 9223372036854775807 := rfl
  have h1 := h.below (below_alloc (Below.refl W.heap.size W) (.cells #[.slice (some ⟨b, 0, none⟩) l.length c] 48))
  have hr1 := hrow.below (below_alloc (Below.refl W.heap.size W) (.cells #[.slice (some ⟨b, 0, none⟩) l.length c] 48)) hrow.lt
  obtain ⟨v', w', ha, h2, h3, h4, h5⟩ := run_append_own_at (P := Try.prog) (w := W.alloc (.cells #[.slice (some ⟨b, 0, none⟩) l.length c] 48)) base 37 37 48 ti _ 1 24 hu hi hz hs hby rfl (by decide) v rs.length _ h1.own ⟨W.heap.size, 0, none⟩ 1 1 [.slice (some ⟨b, 0, none⟩) l.length c] rfl (fun j u hu => by
    rw [Addr.add_lit, Nat.zero_add, blk_cell (blk_new W _), ← Array.getElem?_toList]
    exact hu) (by simp [Value.oneCell']) (by omega) (by omega) (by simp; omega)
  obtain ⟨g', c', rfl, hge, hgl⟩ := h2.form (by omega)
  have hv' : ∀ k, k < (W.alloc (.cells #[.slice (some ⟨b, 0, none⟩) l.length c] 48)).heap.size → some k ≠ v.ownBlock → k ≠ g' := by
    intro k hk hk2 e
    subst e
    rcases h5 with h5 | h5
    · exact hk2 (by rw [← h5]; simp [Value.ownBlock])
    · have e3 : k = (W.alloc (.cells #[.slice (some ⟨b, 0, none⟩) l.length c] 48)).heap.size := by simpa [Value.ownBlock] using h5
      omega
  refine ⟨_, c', w', fun ty => ha, ⟨?_, ?_, ?_⟩, h3⟩
  · rw [List.length_append, List.map_append]
    exact h2
  · intro r hr
    rcases List.mem_append.1 hr with hr | hr
    · have := h1.rows r hr
      refine ⟨this.1, this.2.1.kept h3 this.2.2, fun e => ?_⟩
      have e2 : r.b = g' := by simpa [Value.ownBlock] using e
      exact hv' r.b this.2.1.lt this.2.2 e2
    · rw [List.mem_singleton] at hr
      subst hr
      refine ⟨hb, hr1.kept h3 hne, fun e => ?_⟩
      have e2 : b = g' := by simpa [Value.ownBlock] using e
      exact hv' b hr1.lt hne e2
  · rw [List.map_append, List.nodup_append]
    refine ⟨h.nd, (by simp), fun a ha x hx => ?_⟩
    obtain ⟨r, hr, rfl⟩ := List.mem_map.1 ha
    simp at hx
    subst hx
    exact hnew r hr
end
end Go.Proofs.Ytcgdbjojjpoegaa.P

namespace Go.Proofs.Ytcgdbjojjpoegaa.P
open Go.RowKit Go.Shelf Go.Proofs.YtcgdbjojjpoegaaW.PrintWords Go.Proofs.YtcgdbjojjpoegaaW.PrintLast Go.Proofs.YtcgdbjojjpoegaaW.PrintMore
set_option linter.unusedVariables false
set_option linter.unusedSimpArgs false

/-- copy onto a row as long as what is copied. -/
theorem copy48 {W : World} {b cap c : Nat} {xs ys : List Int} {A : Option Addr} (hrow : RowC W b 2 cap xs) (hr : Kd.C (Kd.int .i64) W A ys.length ys) (hlen : ys.length = xs.length) (hp : 0 < ys.length) :
    ∃ w', (∀ ty, (Builtin.copy_ #[48, 48] ty #[.slice (some ⟨b, 0, none⟩) xs.length cap, .slice A ys.length c]).run Try.prog W = .ok (goInt ys.length) w') ∧ RowC w' b 2 cap ys ∧ W.grownBy w' (some b) := by
  obtain ⟨cur, hb, hs, hc⟩ := hrow.ex
  obtain ⟨ad, rfl, _⟩ := Kd.at_int hr 0 (by omega) (by omega)
  have hle := hrow.le
  have hl : (ys.map (Value.int .i64)).length = ys.length := List.length_map _
  obtain ⟨cur', h1, h2, h3, h4, h5, h6⟩ := Blk.sets (ys.map (Value.int .i64)) 0 W cur hb (by rw [hl]; omega)
  refine ⟨_, fun ty => ?_, ⟨⟨cur', h1, (by omega), fun j hj => ?_⟩, (by omega), hrow.cap_le⟩, h6⟩
  · have := run_copy_cells (P := Try.prog) W 48 48 ty 2 b 0 xs.length cap ad ys.length c (ys.map (Value.int .i64)) Try.underlying48 (by kernel_rfl) (by rw [hl, hlen]; exact (Nat.min_self _).symm) (fun j u hu => by
      obtain ⟨hj, hju⟩ := List.getElem?_eq_some_iff.1 hu
      have hj' : j < ys.length := by rwa [hl] at hj
      obtain ⟨ad2, e, hcc⟩ := Kd.at_int hr (j : Int) (by omega) (by omega)
      injection e with e
      subst e
      rw [Int.toNat_natCast, rd_nat ys j hj'] at hcc
      rw [hcc, ← hju]
      simp) (fun j hj => by rw [Nat.zero_add, hb.cell]; rw [hl] at hj; simp; omega) (fun j _ => hb.fz _) (by simp [Value.oneCell'])
    rw [hl] at this
    exact this
  have := h4 j (by rw [hl]; exact hj)
  rw [Nat.zero_add] at this
  rw [this]
  simp [hj]

set_option maxHeartbeats 2000000 in
set_option maxRecDepth 100000 in
theorem copied_calls (A : Option Addr) (c : Nat) (l : List (List Int)) (w : World) (hr : Kd.C (Kd.slice 2 (Kd.int .i64)) w A l.length l) (hl : l.length ≤ 100) (hm : ∀ x ∈ l, 0 < x.length ∧ x.length ≤ 100) :
    Calls Try.prog 75 #[.slice A l.length c] w fun e w' => ∃ A' c' rs, e = .returned (.slice A' l.length c') ∧ lines rs = l ∧ Grid w' w.heap.size (.slice A' l.length c') rs ∧ Below w.heap.size w w' := by
  have HR := Lib.hid hr
  have HL := Lib.hid hl
  have HM := Lib.hid hm
  clear hr hl hm
  go_enter Try.func75, Try.ntmps75
  go_wp2
  go_loopg [3, 9] l.length (fun kq v3 v9 w' => ∃ (i : Nat) (A' : Option Addr) (c' : Nat) (rs : List Ln), v9 = .int .i64 i ∧ v3 = .slice A' i c' ∧ Aside0 (i + kq = l.length) ∧ Aside0 (lines rs = l.take i) ∧ Aside0 (Grid w' w.heap.size (.slice A' i c') rs) ∧ Aside0 (Below w.heap.size w w'))
  case atStart => exact ⟨0, none, 0, [], rfl, rfl, ⟨(by omega)⟩, ⟨rfl⟩, ⟨Grid.nil _ _⟩, ⟨Below.refl _ _⟩⟩
  obtain ⟨i, A', c', rs, rfl, rfl, HI, HS, HG, HB⟩ := hrel
  cases gk with
  | zero => as_aux_lemma =>
    have hi' : i = l.length := by have := HI.out; omega
    have hlt : decide (i < l.length) = false := by simp [hi']
    have hlt2 : decide ((i : Int) < (l.length : Int)) = false := decide_eq_false (by omega)
    have HE := Lib.hid hi'
    clear hi'
    go_wp2
    go_ret
    exact ⟨A', c', rs, (by rw [← HE.out]; rfl), (by rw [HS.out, List.take_of_length_le (by have := HE.out; omega)]), (by rw [← HE.out]; exact HG.out), HB.out⟩
  | succ k1 => as_aux_lemma =>
    have hi' : i < l.length := by have := HI.out; omega
    have hlt : decide (i < l.length) = true := by simp [hi']
    have hlt2 : decide ((i : Int) < (l.length : Int)) = true := decide_eq_true (by omega)
    have hC := Kd.C_below HR.out HB.out
    obtain ⟨ad, A1, c1, e0, hc0, hle1, hC1⟩ := at_L2 hC (i : Int) (by omega) (by omega)
    cases e0
    rw [Int.toNat_natCast, rd_L2_nat l i hi'] at hc0
    rw [rd_L2_nat l i hi'] at hle1 hC1
    have hmx := HM.out l[i] (List.getElem_mem hi')
    have HLI := Lib.hid (show l.take (i + 1) = l.take i ++ [l[i]] from List.take_succ_eq_append_getElem hi')
    have hrl : rs.length = i := by
      have := congrArg List.length HS.out
      rw [lines_len, List.length_take] at this
      omega
    have HRL := Lib.hid hrl
    have hi100 : (i : Int) ≤ 100 := by have := HL.out; omega
    clear hC hrl
    generalize l[i] = x at *
    obtain ⟨cs, hmk, hcs1, hcs2⟩ := make48 x.length (by omega)
    have HC1 := Lib.hid hC1
    have hx2 : (x.length : Int) ≤ 100 := by omega
    have HLE := Lib.hid hle1
    have HMX := Lib.hid hmx
    clear hC1 hle1 hmx
    go_upto_region 6 with (fail)
    have hb1 := below_alloc (Below.refl wr.heap.size wr) (.cells cs 2)
    have hlenS : ((List.replicate x.length 0 : List Int)).length = x.length := List.length_replicate
    have hrow : RowC (wr.alloc (.cells cs 2)) wr.heap.size 2 x.length (List.replicate x.length 0) := ⟨⟨cs, blk_new _ _, hcs1, fun j hj => by rw [hcs2 j (by rwa [hlenS] at hj)]; simp⟩, (by rw [hlenS]; exact Nat.le_refl _), (by have : maxLen = 9223372036854775807 := rfl; have := HMX.out; omega)⟩
    obtain ⟨w2, hcp, hrow2, hg2⟩ := copy48 (c := c1) hrow (Kd.C_below HC1.out hb1) hlenS.symm HMX.out.1
    rw [hlenS] at hcp
    have HB2 := Lib.hid (below_grown (below_then HB.out HB.out.size hb1) hg2 (fun r hr => by simp at hr; have := HB.out.size; omega))
    have HG2 := Lib.hid (show Grid w2 w.heap.size (.slice A' i c') rs from
      ((HG.out.below hb1).kept hg2 (fun k hk e => by
        have h1 := own_lt HG.out.own k hk
        injection e with e
        omega) (fun r hr e => by
        have h1 := HG.out.lt r hr
        injection e with e
        omega)))
    have hge : w.heap.size ≤ wr.heap.size := HB.out.size
    have HNE := Lib.hid (show w.heap.size ≤ wr.heap.size ∧ some wr.heap.size ≠ (Value.slice A' i c').ownBlock ∧ ∀ r ∈ rs, r.b ≠ wr.heap.size from ⟨hge, fun e => by have := own_lt HG.out.own wr.heap.size e.symm; omega, fun r hr e => by have := HG.out.lt r hr; omega⟩)
    obtain ⟨A3, c3, w3, hap, hG3, hgr3⟩ := HG2.out.snoc (by have := HRL.out; have := HL.out; omega) wr.heap.size x.length x hrow2 HNE.out.1 HNE.out.2.1 HNE.out.2.2 HB2.out.size
    rw [HRL.out] at hap hG3
    have HG3 := Lib.hid hG3
    have HB3 := Lib.hid (below_grown (below_then HB2.out HB2.out.size (below_alloc (Below.refl _ _) (.cells #[.slice (some ⟨wr.heap.size, 0, none⟩) x.length x.length] 48))) hgr3 (fun r hr => own_base HG.out.own r hr))
    have HCP := Lib.hid hcp
    clear hc0 hb1 hlenS hrow hrow2 hg2 hge hG3 hgr3 hcs1 hcs2 hmk hcp HNE HG2 HB2 HG HB
    generalize wr.alloc (.cells cs 2) = W1 at *
    generalize wr.heap.size = gl at *
    have hcp3 := HCP.out 3
    go_upto_region 7 with (fail)
    clear hcp3
    go_wp2_with ((with_reducible refine gate_builtin (b := .append) (xs := #[.tmp 19, .tmp 21]) rfl ?_); at_builtin; refine append_run rfl (.tmp 19) (.tmp 21) 37 rfl _ _ _ w3 rfl rfl hap ?_)
    go_roundg k1
    case rel => exact ⟨i + 1, A3, c3, rs ++ [⟨gl, x.length, x⟩], (by go_num), rfl, ⟨b21_⟩, ⟨(by rw [HLI.out, ← HS.out]; simp [lines])⟩, ⟨HG3.out⟩, ⟨HB3.out⟩⟩
    case measure => omega
end Go.Proofs.Ytcgdbjojjpoegaa.P

namespace Go.Proofs.Ytcgdbjojjpoegaa.P
open Go.RowKit Go.Shelf Go.Proofs.YtcgdbjojjpoegaaW.PrintWords Go.Proofs.YtcgdbjojjpoegaaW.PrintLast Go.Proofs.YtcgdbjojjpoegaaW.PrintMore
set_option linter.unusedVariables false
set_option linter.unusedSimpArgs false

/-- the number at a place of lines -/
def atL (rs : List Ln) (i k : Nat) : Int := match rs[i]? with | some r => r.l.getD k 0 | none => 0
def putL (rs : List Ln) (i k : Nat) (x : Int) : List Ln := match rs[i]? with | some r => rs.set i ⟨r.b, r.c, r.l.set k x⟩ | none => rs
theorem atL_in (rs : List Ln) (i k : Nat) (hi : i < rs.length) (hk : k < rs[i].l.length) : atL rs i k = rs[i].l[k] := by
  simp [atL, List.getElem?_eq_getElem hi, List.getD_eq_getElem?_getD, List.getElem?_eq_getElem hk]
theorem putL_in (rs : List Ln) (i k : Nat) (x : Int) (hi : i < rs.length) : putL rs i k x = rs.set i ⟨rs[i].b, rs[i].c, rs[i].l.set k x⟩ := by
  simp [putL, List.getElem?_eq_getElem hi]
def dims (rs : List Ln) : List (Nat × Nat × Nat) := rs.map fun r => (r.b, r.c, r.l.length)
theorem dims_put (rs : List Ln) (i k : Nat) (x : Int) : dims (putL rs i k x) = dims rs := by
  unfold putL
  cases h : rs[i]? with
  | none => rfl
  | some r => ?_
  obtain ⟨hi, rfl⟩ := List.getElem?_eq_some_iff.1 h
  apply List.ext_getElem
  · simp [dims]
  intro j h1 h2
  simp only [dims, List.getElem_map, List.getElem_set]
  split
  · rename_i e
    subst e
    simp
  rfl
/-- a part taken out of lines: one line, from its place k on -/
def takeK (wt : Int) (i : Nat) : Nat → List Int → List Ln → List Ln
  | _, [], rs => rs
  | k, n :: ns, rs => takeK wt i (k + 1) ns (putL rs i k (wrap64 (atL rs i k - wrap64 (wt * n))))
def takeI (wt : Int) : Nat → List (List Int) → List Ln → List Ln
  | _, [], rs => rs
  | i, l :: ls, rs => takeI wt (i + 1) ls (takeK wt i 0 l rs)
theorem dims_takeK (wt : Int) (i : Nat) : ∀ (ns : List Int) (k : Nat) (rs : List Ln), dims (takeK wt i k ns rs) = dims rs
  | [], _, _ => rfl
  | n :: ns, k, rs => by rw [takeK, dims_takeK wt i ns, dims_put]
theorem dims_takeI (wt : Int) : ∀ (ls : List (List Int)) (i : Nat) (rs : List Ln), dims (takeI wt i ls rs) = dims rs
  | [], _, _ => rfl
  | l :: ls, i, rs => by rw [takeI, dims_takeI wt ls, dims_takeK]
theorem dims_len {rs rs' : List Ln} (h : dims rs = dims rs') : rs.length = rs'.length := by
  have := congrArg List.length h
  simpa [dims] using this
theorem dims_at {rs rs' : List Ln} (h : dims rs = dims rs') (i : Nat) (hi : i < rs.length) (hi' : i < rs'.length) : rs[i].b = rs'[i].b ∧ rs[i].c = rs'[i].c ∧ rs[i].l.length = rs'[i].l.length := by
  have h1 : (dims rs)[i]? = (dims rs')[i]? := by rw [h]
  simpa [dims, List.getElem?_map, List.getElem?_eq_getElem hi, List.getElem?_eq_getElem hi'] using h1
/-- Nothing but the lines of rs may have turned. -/
structure KeepG (rs : List Ln) (W W' : World) : Prop where
  os : W'.os = W.os
  tape : W'.tape = W.tape
  output : W'.output = W.output
  size : W.heap.size ≤ W'.heap.size
  block : ∀ k, k < W.heap.size → (∀ r ∈ rs, r.b ≠ k) → W'.heap[k]? = W.heap[k]?
theorem KeepG.refl (rs : List Ln) (W : World) : KeepG rs W W := ⟨rfl, rfl, rfl, Nat.le_refl _, fun _ _ _ => rfl⟩
theorem KeepG.below {rs : List Ln} {W W1 W2 : World} (h : KeepG rs W W1) (hb : Below W1.heap.size W1 W2) : KeepG rs W W2 :=
  ⟨hb.os.trans h.os, hb.tape.trans h.tape, hb.output.trans h.output, Nat.le_trans h.size hb.size, fun k hk hr => (hb.block k (Nat.lt_of_lt_of_le hk h.size)).trans (h.block k hk hr)⟩
theorem KeepG.grown {rs : List Ln} {W W1 W2 : World} (h : KeepG rs W W1) {b : Nat} (hg : W1.grownBy W2 (some b)) (hb : ∃ r ∈ rs, r.b = b) : KeepG rs W W2 :=
  ⟨hg.os.trans h.os, hg.tape.trans h.tape, hg.output.trans h.output, Nat.le_trans h.size hg.size, fun k hk hr => (hg.block k (Nat.lt_of_lt_of_le hk h.size) (fun e => by
    obtain ⟨r, hm, e2⟩ := hb
    injection e with e
    exact hr r hm (e2.trans e.symm))).trans (h.block k hk hr)⟩
theorem KeepG.dims {rs rs' : List Ln} {W W' : World} (h : KeepG rs W W') (e : dims rs = dims rs') : KeepG rs' W W' :=
  ⟨h.os, h.tape, h.output, h.size, fun k hk hr => h.block k hk (fun r hm e2 => by
    obtain ⟨j, hj, rfl⟩ := List.getElem_of_mem hm
    have hj' : j < rs'.length := by rw [← dims_len e]; exact hj
    exact hr rs'[j] (List.getElem_mem hj') ((dims_at e j hj hj').1.symm.trans e2))⟩
def take76.T7 : Bool × List (List Nat × List Nat) := (true, [([], []), ([], []), ([0, 1], [0, 1]), ([2], [2]), ([], []), ([3, 4], [3, 4]), ([5], [5]), ([], []), ([7], [7]), ([], []), ([8, 9], [8, 9]), ([6, 10], [6, 10]), ([3, 4, 0, 1, 2, 3, 4, 5, 6, 7, 8, 9, 10, 11], [3, 4]), ([12, 11, 0, 1, 2, 3, 4, 5, 6, 7, 8, 9, 10, 11], [11, 12])])
def take76.B7 : List Nat := [0, 0, 3, 7, 0, 31, 63, 0, 128, 0, 896, 2047, 4095, 8191]
theorem take76.tab7 : rtab .any (opsOf Try.f76 7) = take76.T7 := by kernel_rfl
theorem take76.bits7 : waitsOk take76.T7.2 take76.B7 = true := by kernel_rfl
set_option maxHeartbeats 2000000 in
set_option maxRecDepth 100000 in
theorem take_calls (A : Option Addr) (n c base : Nat) (rs : List Ln) (wt : Int) (Ap : Option Addr) (cp : Nat) (p : List (List Int)) (w : World)
    (hg : Grid w base (.slice A n c) rs) (hp : Kd.F (Kd.slice 2 (Kd.int .i64)) w (fun k => ∀ r ∈ rs, r.b ≠ k) Ap p.length p) (hl : p.length = rs.length) (hp100 : p.length ≤ 100) (hm : ∀ i (h : i < p.length) (h' : i < rs.length), p[i].length = rs[i].l.length ∧ p[i].length ≤ 100) :
    Calls Try.prog 76 #[.slice A n c, .agg #[.int .i64 wt, .slice Ap p.length cp]] w fun e w' => (∃ v, e = .returned v) ∧ Grid w' base (.slice A n c) (takeI wt 0 p rs) ∧ KeepG rs w w' := by
  have HP := Lib.hid hp
  have HL := Lib.hid (And.intro hl hp100)
  have HM := Lib.hid hm
  have BX := Lib.hid (blk_new w (.cells #[.int .i64 wt, .slice Ap p.length cp] 71))
  have HB := Lib.hid (box1 w (.cells #[.int .i64 wt, .slice Ap p.length cp] 71))
  have HG := Lib.hid (hg.below HB.out)
  have HK := Lib.hid ((KeepG.refl rs w).below HB.out)
  have HNB := Lib.hid (show (∀ r ∈ rs, r.b ≠ w.heap.size) from fun r hr e => by have := hg.lt r hr; omega)
  clear hp hl hp100 hm hg
  go_enter Try.func76, Try.ntmps76
  go_upto_region 1 with (fail)
  generalize w.alloc (.cells #[.int .i64 wt, .slice Ap p.length cp] 71) = W0 at *
  obtain ⟨g3, eg⟩ : ∃ g, w.heap.size = g := ⟨_, rfl⟩
  rw [eg] at BX HNB ⊢
  replace eg := Lib.hid eg
  have y1 : W0.cell? ⟨g3, 1, none⟩ = some (.slice Ap p.length cp) := (blk_cell BX.out 1).trans rfl
  go_wp2
  clear y1
  go_loopg [4, 5, 6, 7, 11] p.length (fun kq v4 v5 v6 v7 v11 w' => ∃ (i : Nat) (rc : List Ln), v11 = .int .i64 i ∧ Aside0 (i + kq = p.length) ∧ Aside0 (takeI wt i (p.drop i) rc = takeI wt 0 p rs ∧ dims rc = dims rs) ∧ Aside0 (Grid w' base (.slice A n c) rc) ∧ Aside0 (KeepG rs w w' ∧ w'.heap[g3]? = some (.cells #[.int .i64 wt, .slice Ap p.length cp] 71 (0, 0))))
  case atStart => exact ⟨0, rs, rfl, ⟨(by omega)⟩, ⟨rfl, rfl⟩, ⟨HG.out⟩, ⟨HK.out, BX.out⟩⟩
  clear HG HK BX HB
  obtain ⟨i, rc, rfl, HI, HS, HG, HK⟩ := hrel
  cases gk with
  | zero => as_aux_lemma =>
    have hi' : i = p.length := by have := HI.out; omega
    have hlt : decide (i < p.length) = false := by simp [hi']
    have hlt2 : decide ((i : Int) < (p.length : Int)) = false := decide_eq_false (by omega)
    have HF := Lib.hid (show rc = takeI wt 0 p rs by
      have := HS.out.1
      rwa [show p.drop i = [] from List.drop_of_length_le (by omega)] at this)
    clear hi'
    go_wp2
    go_end0
    exact ⟨⟨_, rfl⟩, (by rw [← HF.out]; exact HG.out), HK.out.1⟩
  | succ k1 => as_aux_lemma =>
    have hi' : i < p.length := by have := HI.out; omega
    have hlt : decide (i < p.length) = true := by simp [hi']
    have hlt2 : decide ((i : Int) < (p.length : Int)) = true := decide_eq_true (by omega)
    have hF := Kd.F_step HP.out (fun k hk hlt => HK.out.1.block k hlt hk)
    obtain ⟨ad, cs0, eA, _, hFK, hcs, _⟩ := Kd.F_get hF ([] : List Int) (i : Int) (by omega) (by omega)
    obtain ⟨A1, c1, rfl, hle1, hF1⟩ := Kd.FK_slice_open hFK
    subst eA
    have hc0 := hcs 0 _ rfl
    have egd : p.getD i [] = p[i] := by simp [List.getD_eq_getElem?_getD, List.getElem?_eq_getElem hi']
    rw [Int.toNat_natCast] at hc0 hF1 hle1
    rw [egd] at hc0 hF1 hle1
    have e1 : i * (Kd.slice 2 (Kd.int .i64)).sz + 0 = i := by simp [Kd.slice]
    rw [e1] at hc0
    have hi100 : (i : Int) ≤ 100 := by have := HL.out; omega
    have hirs : i < rs.length := by have := HL.out; omega
    have HX := Lib.hid (HM.out i hi' hirs)
    have HF1 := Lib.hid hF1
    have HS1 := Lib.hid (show takeI wt (i + 1) (p.drop (i + 1)) (takeK wt i 0 p[i] rc) = takeI wt 0 p rs by
      have := HS.out.1
      rwa [List.drop_eq_getElem_cons hi', takeI] at this)
    have HD1 := Lib.hid HS.out.2
    clear hF hFK hcs egd e1 hF1 HS
    generalize p[i] = x at *
    have hx100 : (x.length : Int) ≤ 100 := by have := HX.out; omega
    go_wp2
    clear hc0
    go_loopg [6, 7, 18] x.length (fun kq v6 v7 v18 w' => ∃ (k : Nat) (rc' : List Ln), v18 = .int .i64 k ∧ Aside0 (k + kq = x.length) ∧ Aside0 (takeI wt (i + 1) (p.drop (i + 1)) (takeK wt i k (x.drop k) rc') = takeI wt 0 p rs ∧ dims rc' = dims rs) ∧ Aside0 (Grid w' base (.slice A n c) rc') ∧ Aside0 (KeepG rs w w' ∧ w'.heap[g3]? = some (.cells #[.int .i64 wt, .slice (some ad) p.length cp] 71 (0, 0)) ∧ Kd.F (Kd.int .i64) w' (fun k => ∀ r ∈ rs, r.b ≠ k) A1 x.length x))
    case atStart => exact ⟨0, rc, rfl, ⟨(by omega)⟩, ⟨HS1.out, HD1.out⟩, ⟨HG.out⟩, ⟨HK.out.1, HK.out.2, HF1.out⟩⟩
    clear HG HK HF1 HS1 HD1 rc
    obtain ⟨k, rc, rfl, HJ, HS, HG, HK⟩ := hrel
    cases gk with
    | zero => as_aux_lemma =>
      have hk' : k = x.length := by have := HJ.out; omega
      have hlt3 : decide (k < x.length) = false := by simp [hk']
      have hlt4 : decide ((k : Int) < (x.length : Int)) = false := decide_eq_false (by omega)
      have HS2 := Lib.hid (show takeI wt (i + 1) (p.drop (i + 1)) rc = takeI wt 0 p rs by
        have := HS.out.1
        rwa [show x.drop k = [] from List.drop_of_length_le (by omega)] at this)
      clear hk'
      go_wp2
      go_roundg k1
      case rel => exact ⟨i + 1, rc, (by go_num), ⟨b21_⟩, ⟨HS2.out, HS.out.2⟩, ⟨HG.out⟩, ⟨HK.out.1, HK.out.2.1⟩⟩
      case measure => omega
    | succ k2 => as_aux_lemma =>
      have hk' : k < x.length := by have := HJ.out; omega
      have hlt3 : decide (k < x.length) = true := by simp [hk']
      have hlt4 : decide ((k : Int) < (x.length : Int)) = true := decide_eq_true (by omega)
      have hk100 : (k : Int) ≤ 100 := by omega
      obtain ⟨ad2, e0, hcx⟩ := Kd.at_int (Kd.F_now HK.out.2.2) (k : Int) (by omega) (by omega)
      subst e0
      rw [Int.toNat_natCast, rd_nat x k hk'] at hcx
      have hirc : i < rc.length := by rw [dims_len HS.out.2]; exact hirs
      have hdim := dims_at HS.out.2 i hirc hirs
      have hkl : k < rc[i].l.length := by rw [hdim.2.2, ← HX.out.1]; exact hk'
      obtain ⟨g, eA, en, _, hco⟩ := HG.out.cell i hirc
      subst eA
      subst en
      have hrow := (HG.out.rows rc[i] (List.getElem_mem hirc)).2.1
      have hci := hrow.cell k hkl
      have hfz := hrow.fz k
      have hnx := HG.out.set i k hirc hkl
      have HG3 := Lib.hid hnx
      have HS2 := Lib.hid (show takeI wt (i + 1) (p.drop (i + 1)) (takeK wt i (k + 1) (x.drop (k + 1)) (rc.set i ⟨rc[i].b, rc[i].c, rc[i].l.set k (wrap64 (rc[i].l[k] - wrap64 (wt * x[k])))⟩)) = takeI wt 0 p rs ∧ dims (rc.set i ⟨rc[i].b, rc[i].c, rc[i].l.set k (wrap64 (rc[i].l[k] - wrap64 (wt * x[k])))⟩) = dims rs by
        have h1 := HS.out.1
        rw [List.drop_eq_getElem_cons hk', takeK, atL_in rc i k hirc hkl, putL_in rc i k _ hirc] at h1
        refine ⟨h1, ?_⟩
        rw [← putL_in rc i k _ hirc, dims_put]
        exact HS.out.2)
      have hv : rc[i].v = .slice (some ⟨rc[i].b, 0, none⟩) rc[i].l.length rc[i].c := rfl
      rw [hv] at hco
      have hkl3 : (k : Int) < (rc[i].l.length : Int) := by omega
      have hirc3 : (i : Int) < (rc.length : Int) := by omega
      have y0 : wr.cell? ⟨g3, 0, none⟩ = some (.int .i64 wt) := (blk_cell HK.out.2.1 0).trans rfl
      have hbn : ∃ r ∈ rs, r.b = rc[i].b := ⟨rs[i], List.getElem_mem hirs, hdim.1.symm⟩
      have hb3 : g3 ≠ rc[i].b := fun e => by
        obtain ⟨r, hm, e2⟩ := hbn
        exact HNB.out r hm (e2.trans e.symm)
      clear hnx hv hdim hrow
      generalize rc[i].l[k] = vv at *
      generalize hly : rc[i].l.length = ly at *
      generalize x[k] = y at *
      generalize hnv : wrap64 (vv - wrap64 (wt * y)) = nv at *
      go_upto_region 7 with (fail)
      obtain ⟨Wd, ed⟩ : ∃ Wd, wr.drew = Wd := ⟨_, rfl⟩
      have hd : Below wr.heap.size wr Wd := by rw [← ed]; exact below_drew (Below.refl _ _)
      have HG4 := Lib.hid (show Grid (Wd.setCell ⟨rc[i].b, k, none⟩ (.int .i64 nv)) base (.slice (some ⟨g, 0, none⟩) rc.length c) (rc.set i ⟨rc[i].b, rc[i].c, rc[i].l.set k nv⟩) from (HG.out.below hd).set i k hirc (by omega) nv)
      have hgs := grown_set Wd rc[i].b k (.int .i64 nv)
      have HK4 := Lib.hid (show KeepG rs w (Wd.setCell ⟨rc[i].b, k, none⟩ (.int .i64 nv)) from (HK.out.1.below hd).grown hgs hbn)
      have HB4 := Lib.hid (show (Wd.setCell ⟨rc[i].b, k, none⟩ (.int .i64 nv)).heap[g3]? = some (.cells #[.int .i64 wt, .slice (some ad) p.length cp] 71 (0, 0)) from (hgs.block g3 (blk_lt (blk_below HK.out.2.1 hd)) (by simpa using hb3)).trans (blk_below HK.out.2.1 hd))
      have HF4 := Lib.hid (show Kd.F (Kd.int .i64) (Wd.setCell ⟨rc[i].b, k, none⟩ (.int .i64 nv)) (fun k => ∀ r ∈ rs, r.b ≠ k) (some ad2) x.length x from Kd.F_grown (Kd.F_below HK.out.2.2 hd) hgs (fun q hq e => by
        obtain ⟨r, hm, e2⟩ := hbn
        injection e with e
        exact hq r hm (e2.trans e.symm)))
      have z0 : Wd.cell? ⟨g, i, none⟩ = some (.slice (some ⟨rc[i].b, 0, none⟩) ly rc[i].c) := cell_in hd hco
      have z1 : Wd.cell? ⟨rc[i].b, k, none⟩ = some (.int .i64 vv) := cell_in hd hci
      have z2 : Wd.cell? ⟨g3, 0, none⟩ = some (.int .i64 wt) := cell_in hd y0
      have zf : Wd.frozen? ⟨rc[i].b, k, none⟩ = false := ((HG.out.below hd).rows rc[i] (List.getElem_mem hirc)).2.1.fz k
      clear hci hco hfz y0 hgs hb3 hbn hcx
      generalize rc[i].b = rb at *
      generalize rc[i].c = rcc at *
      refine sA_ 14 (fun w' => w'.cell? ⟨g, i, none⟩ = some (.slice (some ⟨rb, 0, none⟩) ly rcc) ∧ w'.cell? ⟨rb, k, none⟩ = some (.int .i64 vv) ∧ w'.cell? ⟨g3, 0, none⟩ = some (.int .i64 wt)) [13] take76.tab7 take76.bits7 (by rw [ed]; exact ⟨z0, z1, z2⟩) (fun hHeld HT_ HW_ => ?_)
      rw [ed] at hHeld ⊢
      refine pA_ 0 (some 23) 14 1 ?_
      refine pA_ 1 (some 24) 14 3 ?_
      refine pA_ 2 (some 25) 14 7 ?_
      refine tE_ 3 (some 26) 14 15 ?_
      refine pA_ 4 (some 27) 14 31 ?_
      refine pA_ 5 (some 28) 14 63 ?_
      refine tE_ 6 (some 29) 14 127 ?_
      refine pA_ 7 (some 30) 14 255 ?_
      refine tE_ 8 (some 31) 14 511 ?_
      refine pA_ 9 (some 32) 14 1023 ?_
      refine pA_ 10 (some 33) 14 2047 ?_
      refine pA_ 11 (some 34) 14 4095 ?_
      refine pA_ 12 (some 35) 14 8191 ?_
      refine oL_ 13 none 14 16383 (fun K hK => ?_)
      refine skip_ (w1 := Wd.setCell ⟨rb, k, none⟩ (.int .i64 nv)) (by rfl) rfl ?_ ?_
      · rw [← hnv]
        go_simp
      refine hK.out _ _ ?_
      clear hK K
      refine dA_ ?_
      clear hHeld HT_ HW_ z0 z1 z2 zf hd ed HG HK
      go_wp2
      go_roundg k2
      case rel => exact ⟨k + 1, _, (by go_num), ⟨(by have := HJ.out; omega)⟩, ⟨HS2.out⟩, ⟨HG4.out⟩, ⟨HK4.out, HB4.out, HF4.out⟩⟩
      case measure => omega
end Go.Proofs.Ytcgdbjojjpoegaa.P

namespace Go.Proofs.Ytcgdbjojjpoegaa.P
open Go.RowKit Go.Shelf Go.Proofs.YtcgdbjojjpoegaaW.PrintWords Go.Proofs.YtcgdbjojjpoegaaW.PrintLast Go.Proofs.YtcgdbjojjpoegaaW.PrintMore
set_option linter.unusedVariables false
set_option linter.unusedSimpArgs false

/-- a cell in coins -/
def coinF (den : Int) (am : List Am) (q : Nat) : Int := wrap64 ((amAt am (q : Int)).pa.tdiv den)
def coinsRow (den : Int) (am : List Am) (m i n : Nat) : List Int := (List.range n).map fun k => coinF den am (i * m + k)
def coinsL (den : Int) (am : List Am) (m n : Nat) : List (List Int) := (List.range n).map fun i => coinsRow den am m i m
theorem coinsRow_succ (den : Int) (am : List Am) (m i k : Nat) : coinsRow den am m i (k + 1) = coinsRow den am m i k ++ [coinF den am (i * m + k)] := by
  simp [coinsRow, List.range_succ]
theorem coinsL_succ (den : Int) (am : List Am) (m i : Nat) : coinsL den am m (i + 1) = coinsL den am m i ++ [coinsRow den am m i m] := by
  simp [coinsL, List.range_succ]
theorem coinsRow_len (den : Int) (am : List Am) (m i n : Nat) : (coinsRow den am m i n).length = n := by simp [coinsRow]
theorem coinsL_len (den : Int) (am : List Am) (m n : Nat) : (coinsL den am m n).length = n := by simp [coinsL]
theorem wrapN (n : Nat) (h : n ≤ 1000000) : wrap64 (n : Int) = (n : Int) := by
  unfold wrap64
  omega
theorem mulW (i m k : Nat) (hi : i ≤ 6) (hm : m ≤ 6) (hk : k ≤ 6) : wrap64 ((i : Int) * (m : Int)) = ((i * m : Nat) : Int) ∧ wrap64 (((i * m : Nat) : Int) + (k : Int)) = ((i * m + k : Nat) : Int) := by
  have h1 : i * m ≤ 6 * 6 := Nat.mul_le_mul hi hm
  generalize hq : i * m = q at *
  have h2 : (i : Int) * (m : Int) = (q : Int) := by rw [← hq]; exact (Int.natCast_mul i m).symm
  have h3 : (q : Int) + (k : Int) = ((q + k : Nat) : Int) := (Int.natCast_add q k).symm
  rw [h2, h3]
  exact ⟨wrapN q (by omega), wrapN (q + k) (by omega)⟩
/-- append of a number (in a block of its own) to numbers of the call's own, or to none. -/
theorem appI {W : World} {base : Nat} {v : Value} {xs : List Int} (h : W.ownsRow base 2 1 v xs.length (xs.map (Value.int .i64))) (hl : xs.length ≤ 1000) (x : Int) (hbase : base ≤ W.heap.size) :
    ∃ v' w', (∀ ty, (Builtin.append_ #[48, 48] ty #[v, .slice (some ⟨W.heap.size, 0, none⟩) 1 1]).run Try.prog (W.alloc (.cells #[.int .i64 x] 2)) = .ok v' w') ∧ w'.ownsRow base 2 1 v' (xs ++ [x]).length ((xs ++ [x]).map (Value.int .i64)) ∧ (W.alloc (.cells #[.int .i64 x] 2)).grownBy w' v.ownBlock := by
  obtain ⟨ti, hi, hz, hs, hby⟩ := info_parts info2
  have hmx : maxLen = 9223372036854775807 := rfl
  have h1 := own_below h (below_alloc (Below.refl W.heap.size W) (.cells #[.int .i64 x] 2))
  obtain ⟨v', w', ha, h2, h3, _⟩ := run_append_own (P := Try.prog) (w := W.alloc (.cells #[.int .i64 x] 2)) base 48 48 2 ti (.int .i64 0) 1 8 Try.underlying48 hi hz hs hby rfl (by decide) v xs.length _ h1 ⟨W.heap.size, 0, none⟩ 1 1 [.int .i64 x] rfl (fun j u hu => by
    rw [Addr.add_lit, Nat.zero_add, blk_cell (blk_new W _), ← Array.getElem?_toList]
    exact hu) (by simp [Value.oneCell']) (by omega) (by omega) (by simp; omega)
  exact ⟨v', w', fun ty => ha, (by rw [List.length_append, List.map_append]; exact h2), h3⟩
def coins72.T10 : Bool × List (List Nat × List Nat) := (true, [([], []), ([], []), ([1], [1]), ([2], [2]), ([3], [3]), ([], []), ([], []), ([5, 6], [5, 6]), ([], []), ([7, 8], [7, 8]), ([4, 9], [4, 9]), ([10], [10]), ([11], [11]), ([], []), ([13], [13]), ([14], [14]), ([15], [15]), ([16], [16]), ([12, 17], [12, 17]), ([18], [18]), ([0, 19], [0, 19]), ([20, 20, 0, 1, 2, 3, 4, 5, 6, 7, 8, 9, 10, 11, 12, 13, 14, 15, 16, 17, 18, 19, 20], [0, 20])])
def coins72.B10 : List Nat := [0, 0, 2, 6, 14, 0, 0, 96, 0, 480, 1022, 2046, 4094, 0, 8192, 24576, 57344, 122880, 262142, 524286, 1048575, 2097151]
theorem coins72.tab10 : rtab .any (opsOf Try.f72 10) = coins72.T10 := by kernel_rfl
theorem coins72.bits10 : waitsOk coins72.T10.2 coins72.B10 = true := by kernel_rfl
set_option maxHeartbeats 3000000 in
set_option maxRecDepth 100000 in
theorem coins_calls (B base : Nat) (den : Int) (A : Option Addr) (c bA cA m : Nat) (l : List (List Int)) (am : List Am) (seen : List Int) (w : World)
    (h : Bk w B base den (.slice A l.length c) bA cA am seen) (hr : Kd.C (Kd.slice 2 (Kd.int .i64)) w A l.length l) (hn : 0 < l.length) (hn6 : l.length ≤ 6) (hm0 : 0 < m) (hm6 : m ≤ 6) (hm : (rd_L2 l 0).length = m) (ham : l.length * m ≤ am.length) (hd : den ≠ 0) :
    Calls Try.prog 72 #[.pointer (some ⟨B, 0, none⟩)] w fun e w' => ∃ A' c' rs, e = .returned (.slice A' l.length c') ∧ lines rs = coinsL den am m l.length ∧ Grid w' w.heap.size (.slice A' l.length c') rs ∧ Below w.heap.size w w' := by
  obtain ⟨ad, A0, c0, eA, hc0, _⟩ := row0 hr hn
  subst eA
  rw [hm] at hc0
  have HH := Lib.hid h
  have HN := Lib.hid (show 0 < l.length ∧ l.length ≤ 6 ∧ 0 < m ∧ m ≤ 6 ∧ l.length * m ≤ am.length from ⟨hn, hn6, hm0, hm6, ham⟩)
  have hl0 : 0 < (l.length : Int) := by omega
  have b1 := h.at_.c1
  clear h hr hn6 hm ham hm6
  go_enter Try.func72, Try.ntmps72
  go_wp2
  clear hc0 b1
  have hz : (den == 0) = false := beq_eq_false_iff_ne.mpr hd
  generalize el : l.length = n at *
  go_loopg [3, 5, 6, 7, 22] n (fun kq v3 v5 v6 v7 v22 w' => ∃ (i : Nat) (A' : Option Addr) (c' : Nat) (rs : List Ln), v22 = .int .i64 i ∧ v3 = .slice A' i c' ∧ Aside0 (i + kq = n) ∧ Aside0 (lines rs = coinsL den am m i) ∧ Aside0 (Grid w' w.heap.size (.slice A' i c') rs) ∧ Aside0 (Below w.heap.size w w'))
  case atStart => exact ⟨0, none, 0, [], rfl, rfl, ⟨(by omega)⟩, ⟨rfl⟩, ⟨Grid.nil _ _⟩, ⟨Below.refl _ _⟩⟩
  obtain ⟨i, A', c', rs, rfl, rfl, HI, HS, HG, HB⟩ := hrel
  cases gk with
  | zero => as_aux_lemma =>
    have hi' : i = n := by have := HI.out; omega
    have hlt : decide (i < n) = false := by simp [hi']
    have hlt2 : decide ((i : Int) < (n : Int)) = false := decide_eq_false (by omega)
    have HE := Lib.hid (show i = l.length by rw [el]; exact hi')
    clear hi'
    go_wp2
    go_ret
    exact ⟨A', c', rs, (by rw [← HE.out]; rfl), (by rw [HS.out, HE.out]), (by rw [← HE.out]; exact HG.out), HB.out⟩
  | succ k1 => as_aux_lemma =>
    have hi' : i < n := by have := HI.out; omega
    have hlt : decide (i < n) = true := by simp [hi']
    have hlt2 : decide ((i : Int) < (n : Int)) = true := decide_eq_true (by omega)
    have hi100 : (i : Int) ≤ 100 := by have := HN.out; omega
    have HRS := Lib.hid (show (∀ r ∈ rs, r.b < wr.heap.size) ∧ (∀ k, (Value.slice A' i c').ownBlock = some k → k < wr.heap.size) ∧ w.heap.size ≤ wr.heap.size from ⟨HG.out.lt, fun k hk => own_lt HG.out.own k hk, HB.out.size⟩)
    have HRL := Lib.hid (show rs.length = i by
      have := congrArg List.length HS.out
      rwa [lines_len, coinsL_len] at this)
    generalize eb : wr.heap.size = bL at HRS
    have HEB := Lib.hid eb
    clear eb
    go_wp2
    go_loopg [6, 7, 26] m (fun kq v6 v7 v26 w' => ∃ (k : Nat) (vl : Value) (xs : List Int), v26 = .int .i64 k ∧ v6 = vl ∧ Aside0 (k + kq = m) ∧ Aside0 (xs = coinsRow den am m i k) ∧ Aside0 (w'.ownsRow bL 2 1 vl xs.length (xs.map (Value.int .i64)) ∧ bL ≤ w'.heap.size) ∧ Aside0 (Grid w' w.heap.size (.slice A' i c') rs) ∧ Aside0 (Below w.heap.size w w'))
    case atStart => exact ⟨0, .slice none 0 0, [], rfl, rfl, ⟨(by omega)⟩, ⟨rfl⟩, ⟨own_nil _ _ _ _, (by have := HEB.out; omega)⟩, ⟨HG.out⟩, ⟨HB.out⟩⟩
    clear HG HB HEB
    obtain ⟨k, vl, xs, rfl, rfl, HJ, HX, HO, HG, HB⟩ := hrel
    cases gk with
    | zero => as_aux_lemma =>
      have hk' : k = m := by have := HJ.out; omega
      have hlt3 : decide (k < m) = false := by simp [hk']
      have hlt4 : decide ((k : Int) < (m : Int)) = false := decide_eq_false (by omega)
      have hxl : xs.length = m := by rw [HX.out, coinsRow_len, hk']
      obtain ⟨b, cap, rfl, hbb, _, hrow⟩ := RowC.of_own HO.out.1 (by omega)
      have hge := HRS.out
      obtain ⟨A3, c3, w3, hap, hG3, hgr3⟩ := HG.out.snoc (by have := HRL.out; have := HN.out; omega) b cap xs hrow (by omega) (fun e => by have := hge.2.1 b e.symm; omega) (fun r hr e => by have := hge.1 r hr; omega) HB.out.size
      rw [HRL.out] at hap hG3
      have HG3 := Lib.hid hG3
      have HB3 := Lib.hid (below_grown (below_then HB.out HB.out.size (below_alloc (Below.refl _ _) (.cells #[.slice (some ⟨b, 0, none⟩) xs.length cap] 48))) hgr3 (fun r hr => own_base HG.out.own r hr))
      have HE := Lib.hid (show lines (rs ++ [⟨b, cap, xs⟩]) = coinsL den am m (i + 1) by
        rw [coinsL_succ, ← HS.out, ← hk']
        simp [lines, HX.out, hk'])
      clear hk' hxl hrow hG3 hgr3 hbb
      go_wp2_with ((with_reducible refine gate_builtin (b := .append) (xs := #[.tmp 51, .tmp 53]) rfl ?_); at_builtin; refine append_run rfl (.tmp 51) (.tmp 53) 37 rfl _ _ _ w3 rfl rfl hap ?_)
      go_roundg k1
      case rel => exact ⟨i + 1, A3, c3, rs ++ [⟨b, cap, xs⟩], (by go_num), rfl, ⟨b21_⟩, ⟨HE.out⟩, ⟨HG3.out⟩, ⟨HB3.out⟩⟩
      case measure => omega
    | succ k2 => as_aux_lemma =>
      have hk' : k < m := by have := HJ.out; omega
      have hlt3 : decide (k < m) = true := by simp [hk']
      have hlt4 : decide ((k : Int) < (m : Int)) = true := decide_eq_true (by omega)
      have hk100 : (k : Int) ≤ 100 := by have := HN.out; omega
      have hqn : i * m + k < am.length := by
        have h1 : (i + 1) * m ≤ n * m := Nat.mul_le_mul_right m hi'
        rw [Nat.add_mul] at h1
        have := HN.out
        omega
      have hk6 : k ≤ 6 := by have := HN.out; omega
      have hxl : xs.length ≤ 1000 := by rw [HX.out, coinsRow_len]; exact Nat.le_trans hk6 (by decide)
      have hqi0 : ((i * m + k : Nat) : Int) < (am.length : Int) := Int.ofNat_lt.2 hqn
      obtain ⟨hw1, hw2⟩ := mulW i m k (by have := HN.out; omega) (by have := HN.out; omega) (by have := HN.out; omega)
      have HX2 := Lib.hid (show xs ++ [coinF den am (i * m + k)] = coinsRow den am m i (k + 1) by rw [coinsRow_succ, HX.out])
      have HCF := Lib.hid (show coinF den am (i * m + k) = wrap64 (am[i * m + k].pa.tdiv den) by rw [coinF, amAt_nat am _ hqn])
      have hcell := fun (W : World) (hW : Below w.heap.size w W) => ((HH.out.below hW).cell (i * m + k) hqn).2.2
      generalize am[i * m + k].pa = pa at *
      generalize i * m = im at *
      generalize eq : im + k = q at *
      generalize ecf : coinF den am q = cf at *
      go_upto_region 10 with (fail)
      obtain ⟨Wd, ed⟩ : ∃ Wd, wr.drew = Wd := ⟨_, rfl⟩
      have hd0 : Below wr.heap.size wr Wd := by rw [← ed]; exact below_drew (Below.refl _ _)
      have hBd := below_then HB.out HB.out.size hd0
      have hOd := own_below HO.out.1 hd0
      have hbl : bL ≤ Wd.heap.size := Nat.le_trans HO.out.2 hd0.size
      obtain ⟨v', w', hap, ho', hgr⟩ := appI hOd hxl cf hbl
      have hAl := below_alloc (Below.refl Wd.heap.size Wd) (.cells #[.int .i64 cf] 2)
      have hgb := own_base hOd
      have hge := HRS.out
      have hB1 := below_then hBd hBd.size hAl
      have HB4 := Lib.hid (show Below w.heap.size w w' from below_grown hB1 hgr (fun r hr => Nat.le_trans hge.2.2 (hgb r hr)))
      have HG4 := Lib.hid (show Grid w' w.heap.size (.slice A' i c') rs from ((HG.out.below hd0).below hAl).kept hgr (fun q hq e => by have h1 := hge.2.1 q hq; have h2 := hgb q e.symm; omega) (fun r hr e => by have h1 := hge.1 r hr; have h2 := hgb r.b e.symm; omega))
      have HO4 := Lib.hid (show w'.ownsRow bL 2 1 v' (xs ++ [cf]).length ((xs ++ [cf]).map (Value.int .i64)) ∧ bL ≤ w'.heap.size from ⟨ho', (by have h1 := hgr.size; simp at h1; omega)⟩)
      have HAP := Lib.hid hap
      have z0 := (HH.out.below hBd).at_.c0
      have z2 := (HH.out.below hBd).at_.c2
      have zc := hcell Wd hBd
      have x0 := (HH.out.below hB1).at_.c0
      have x2 := (HH.out.below hB1).at_.c2
      have xc := hcell _ hB1
      have u0 := (HH.out.below HB4.out).at_.c0
      have u2 := (HH.out.below HB4.out).at_.c2
      have uc := hcell w' HB4.out
      clear ho' hgr hgb hge hbl hOd hap hcell
      refine sA_ 22 (fun w' => w'.cell? ⟨B, 0, none⟩ = some (.int .i64 den) ∧ w'.cell? ⟨B, 2, none⟩ = some (.slice (some ⟨bA, 0, none⟩) am.length cA) ∧ w'.cell? ⟨bA, q * 3 + 2, none⟩ = some (.int .i64 pa)) [] coins72.tab10 coins72.bits10 (by rw [ed]; exact ⟨z0, z2, zc⟩) (fun hHeld HT_ HW_ => ?_)
      rw [ed] at hHeld ⊢
      refine pA_ 0 (some 29) 22 1 ?_
      refine pA_ 1 (some 30) 22 3 ?_
      refine pA_ 2 (some 31) 22 7 ?_
      refine pA_ 3 (some 32) 22 15 ?_
      refine tE_ 4 (some 33) 22 31 ?_
      refine pA_ 5 (some 34) 22 63 ?_
      refine pA_ 6 (some 35) 22 127 ?_
      refine pA_ 7 (some 36) 22 255 ?_
      refine pA_ 8 (some 37) 22 511 ?_
      refine pA_ 9 (some 38) 22 1023 ?_
      refine pA_ 10 (some 39) 22 2047 ?_
      refine pA_ 11 (some 40) 22 4095 ?_
      refine tE_ 12 (some 41) 22 8191 ?_
      refine pA_ 13 (some 42) 22 16383 ?_
      refine pA_ 14 (some 43) 22 32767 ?_
      refine pA_ 15 (some 44) 22 65535 ?_
      refine pA_ 16 (some 45) 22 131071 ?_
      refine tE_ 17 (some 46) 22 262143 ?_
      refine pA_ 18 (some 47) 22 524287 ?_
      refine oA_ 19 (some 48) 22 1048575 (fun K hK => ?_)
      refine event_step (by rfl) (w1 := Wd.alloc (.cells #[.int .i64 cf] 2)) (v := .slice (some ⟨Wd.heap.size, 0, none⟩) 1 1) (by rw [HCF.out]; go_simp) ?_
      refine hK.out _ _ ⟨x0, x2, xc⟩ (fun hHeld => ?_)
      clear hK K
      refine nA_ (some 48) ?_
      refine oA_ 20 (some 49) 22 2097151 (fun K hK => ?_)
      refine append_step (by rfl) (.tmp 29) (.tmp 48) 48 rfl _ _ _ w' rfl rfl HAP.out ?_
      refine hK.out _ _ ⟨u0, u2, uc⟩ (fun hHeld => ?_)
      clear hK K
      refine nA_ (some 49) ?_
      refine pA_ 21 (some 6) 22 4194303 ?_
      refine dA_ ?_
      clear hHeld HT_ HW_ z0 z2 zc x0 x2 xc u0 u2 uc hAl hBd hB1 hd0 ed HO HG HB hw1 hw2
      go_wp2
      go_roundg k2
      case rel => exact ⟨k + 1, v', xs ++ [cf], (by go_num), rfl, ⟨(by have := HJ.out; omega)⟩, ⟨HX2.out⟩, ⟨HO4.out⟩, ⟨HG4.out⟩, ⟨HB4.out⟩⟩
      case measure => omega
end Go.Proofs.Ytcgdbjojjpoegaa.P

namespace Go.Proofs.YtcgdbjojjpoegaaR
open Go
set_option linter.unusedVariables false
set_option linter.unusedSimpArgs false
section
variable {P : Program} {ops : Array Oper} {Q : Exit → Act → World → Prop} {md : Region.Mode}

/-- One operation, in a round of the widest fence. -/
theorem op_round {o : Oper} {a : Act} {w : World} {K : Act → World → Prop} (n l : Nat) (hd : ∀ c, o.op ≠ .defer c) (h : o.wp P a w K Q) : o.wpIn (Fence.wide.inRound l) n P a w K Q := by
  refine ⟨fun _ _ => trivial, ?_⟩
  rw [Oper.semAt_eq _ _ _ hd]
  have h' : o.upon P a K Q ((execOp a.eval o).run P w) := h
  generalize (execOp a.eval o).run P w = r at h' ⊢
  cases r with
  | ok nx w1 =>
    cases nx with
    | enter f args => exact ⟨fun e => (by cases e), callsIn_wide.2 h'⟩
    | row row args =>
      refine ⟨fun e => (by cases e), fun c cs _ => ?_⟩
      obtain ⟨v, w2, hr, hs⟩ := h' c cs
      exact ⟨v, w2, hr, stepsIn_wide.2 hs⟩
    | value v => exact h'
    | skip => exact h'
    | defer d => exact h'
    | _ => exact h'.elim
  | halt s w1 =>
    cases s <;> exact h'

theorem any_round (n l : Nat) (hd : ∀ (i : Nat) (o : Oper), ops[i]? = some o → ∀ c, o.op ≠ .defer c) (hQ : ¬ LetsOut Q) : ∀ (fuel : Nat) (listed : Array Bool) (a : Act) (w : World),
    wpAny P md ops Q fuel listed a w → wpAnyIn (Fence.wide.inRound l) n P md ops Q fuel listed a w
  | 0, _, _, _, h => h
  | fuel + 1, listed, a, w, h => by
    refine ⟨h.1, fun i hi => ?_⟩
    have h2 := h.2 i hi
    unfold wpOp at h2
    unfold wpOpIn
    cases ho : ops[i]? with
    | none => rw [ho] at h2; exact any_round n l hd hQ fuel _ _ _ h2
    | some o =>
      rw [ho] at h2
      simp only [] at h2 ⊢
      split
      · rename_i hw
        rw [if_pos hw] at h2
        rcases h2 with h3 | h3
        · exact op_round n l (hd i o ho) (Oper.wp_mono (fun a' w' h' => any_round n l hd hQ fuel _ a' w' h') h3)
        · exact absurd h3.2 hQ
      · rename_i hw
        rw [if_neg hw] at h2
        exact ⟨fun _ _ => trivial, any_round n l hd hQ fuel _ _ _ h2⟩

/-- A region in a round: what holds for it outside of one, holds in it. -/
theorem region_round {id : Nat} {a : Act} {w : World} (n l : Nat) (hm : P.follows .mixedOrders = true) (hd : ∀ (i : Nat) (o : Oper), ops[i]? = some o → ∀ c, o.op ≠ .defer c) (hQ : ¬ LetsOut Q)
    (h : wpAny P .any ops Q ops.size (Array.replicate ops.size false) a { w with drawn := w.drawn + 1 }) : (Code.region id ops true).wpIn (Fence.wide.inRound l) n P Q a w :=
  wpIn_region_any hm (any_round n l hd hQ _ _ _ _ h)

def noDefer (o : Oper) : Bool := match o.op with | .defer _ => false | _ => true
theorem noDefer_all {l : List Oper} (h : l.all noDefer = true) : ∀ (i : Nat) (o : Oper), l.toArray[i]? = some o → ∀ c, o.op ≠ .defer c := by
  intro i o ho c hc
  have := List.all_eq_true.1 h o (List.mem_of_getElem? (by simpa using ho))
  simp [noDefer, hc] at this

/-- The first operations only read, in whatever order; the others follow one by one: in a round. -/
theorem tail_round {id : Nat} {a : Act} {w : World} {l : List Oper} (n k : Nat) (q : Nat) (hm : P.follows .mixedOrders = true) (hdl : l.all noDefer = true) (hB : Region.lexTailB .any l.toArray q = true) (hQ : ¬ LetsOut Q)
    (h : wpStill P l.toArray w.drew (fun a' => wpList P l.toArray Q (l.drop q) a' w.drew) (l.take q) a) : (Code.region id l.toArray true).wpIn (Fence.wide.inRound k) n P Q a w := by
  refine region_round n k hm (noDefer_all hdl) hQ ?_
  simp only [Region.lexTailB, Bool.and_eq_true, decide_eq_true_eq] at hB
  obtain ⟨⟨⟨⟨b1, b2⟩, b3⟩, b4⟩, b5⟩ := hB
  have s0 : l.toArray.size = l.length := rfl
  have s1 : (l.take q).length = q := by simp; omega
  have s2 : (l.drop q).length = l.toArray.size - q := by simp
  have i0 : HeadInv .any l.toArray q (Array.replicate l.toArray.size false) := by
    refine ⟨by simp, fun j oj _ hl => ?_, fun t _ ht => ?_⟩
    · rw [getD_replicate_false] at hl; cases hl
    · exact getD_in (by simpa using ht) (getD_replicate_false _ _)
  have H1 := wpAnyL_lex (P := P) (md := .any) (g := l.toArray.size - q) b1 b3 b4 b2 (l.take q) 0 _ a (fun j hj => by rw [s1] at hj; simp [hj]) (by rw [s1, Nat.zero_add]) i0 (by rw [s1]; exact b5) h
  have H2 : ∀ listed a', (Region.seqB .any l.toArray (l.toArray.size - q) q listed = true ∧ wpList P l.toArray Q (l.drop q) a' w.drew) → wpAny P .any l.toArray Q (l.toArray.size - q) listed a' w.drew := fun listed a' hL => by
    have := wpAny_of_seq (P := P) (md := .any) (Q' := Q) (l.drop q) q listed a' w.drew (fun j => by simp [List.getElem?_drop]) (by rw [s2]; exact hL.1) hL.2
    rw [s2] at this
    exact this
  have H3 := wpAny_of_head H2 _ _ _ H1
  rw [s1, show q + (l.toArray.size - q) = l.toArray.size by omega] at H3
  exact H3

/-- All operations only read, but for callees that lay blocks: in a round. -/
theorem below_round {id : Nat} {a : Act} {w : World} {l : List Oper} (n k : Nat) (hm : P.follows .mixedOrders = true) (hdl : l.all noDefer = true) (hB : Region.lexB .any l.toArray = true) (hQ : ¬ LetsOut Q)
    (h : wpQuiet P l.toArray (fun w' => ∃ p : Regrown, w' = Go.Sort.grow (redrawn w p.d) p.os) (fun a' => ∀ w', (∃ p : Regrown, w' = Go.Sort.grow (redrawn w p.d) p.os) → Q .normal a' w') l a) : (Code.region id l.toArray true).wpIn (Fence.wide.inRound k) n P Q a w := by
  refine region_round n k hm (noDefer_all hdl) hQ ?_
  simp only [Region.lexB, Bool.and_eq_true] at hB
  refine wpAny_of_quiet (C := fun w' => ∃ p : Regrown, w' = Go.Sort.grow (redrawn w p.d) p.os) (Q := fun a' => ∀ w', (∃ p : Regrown, w' = Go.Sort.grow (redrawn w p.d) p.os) → Q .normal a' w') (fun _ w' hw' h => h w' hw') _ _ _ _ ⟨⟨w.drawn + 1, #[]⟩, by rw [Go.Sort.grow_empty]; rfl⟩ ?_
  have := wpAnyQ_lex (md := .any) hB.1 l 0 (Array.replicate l.toArray.size false) a (by simp) (by simpa using hB.2) h
  simpa using this
end
end Go.Proofs.YtcgdbjojjpoegaaR

/- Maps that the call itself makes, told by a plain function from keys to values. -/
namespace Go.Proofs.YtcgdbjojjpoegaaM
open Go.Instr
variable {P : Program} {κ : Type} [DecidableEq κ]

/-- A key's type whose values are written by enc: what is asked of it. -/
structure KeyOK (P : Program) (kt : TypeId) (enc : κ → Value) : Prop where
  chk : ∀ (e : Bool) (k : κ) (w : World), (checkKey e 10000 kt (enc k)).run P w = .ok () w
  eq : ∀ (a b : κ) (w : World), (Op.equal kt (enc a) (enc b)).run P w = .ok (decide (a = b)) w
  bits : ∀ a : κ, sameBits 10000 (enc a) (enc a) = true
  und : ∃ d, P.underlying kt = some d ∧ ((∀ a b : κ, sameNow d (enc a) (enc b) = none) ∨ (∀ a b : κ, sameNow d (enc a) (enc b) = some (decide (a = b))))

abbrev Ent (κ : Type) := κ × Value × Nat
def mkE (enc : κ → Value) (x : Ent κ) : MapEntry := ⟨enc x.1, x.2.1, x.2.2⟩
def findE (k : κ) : List (Ent κ) → Nat → Option (Nat × Value)
  | [], _ => none
  | e :: es, i => if k = e.1 then some (i, e.2.1) else findE k es (i + 1)

theorem findAsking_run {kt : TypeId} {enc : κ → Value} (K : KeyOK P kt enc) (k : κ) : ∀ (es : List (Ent κ)) (i : Nat) (w : World),
    (findAsking kt (enc k) (es.map (mkE enc)) i).run P w = .ok (findE k es i) w
  | [], i, w => by simp [findAsking, findE, Sem.run_pure]
  | e :: es, i, w => by
    simp only [List.map_cons, findAsking, findE, mkE]
    rw [Sem.run_bind, K.eq]
    by_cases h : k = e.1
    · simp [h, Result.andThen, Sem.run_pure]
    · simp [h, Result.andThen]
      exact findAsking_run K k es (i + 1) w

theorem findNow_run {d : TypeDesc} {enc : κ → Value} (h : ∀ a b : κ, sameNow d (enc a) (enc b) = some (decide (a = b))) (k : κ) : ∀ (es : List (Ent κ)) (i : Nat),
    findNow d (enc k) (es.map (mkE enc)) i = some (findE k es i)
  | [], i => rfl
  | e :: es, i => by
    simp only [List.map_cons, findNow, mkE, h]
    by_cases hk : k = e.1
    · simp [hk, findE]
    · simp [hk, findE]
      exact findNow_run h k es (i + 1)

theorem findKey_run {kt : TypeId} {enc : κ → Value} (K : KeyOK P kt enc) (k : κ) (es : List (Ent κ)) (w : World) :
    (findKey kt (enc k) (es.map (mkE enc))).run P w = .ok (findE k es 0) w := by
  obtain ⟨d, hd, h | h⟩ := K.und
  · simp only [findKey]
    rw [Sem.run_bind, run_underlying hd]
    simp only [Result.andThen]
    cases es with
    | nil => simp [findNow, findE, Sem.run_pure]
    | cons e es => ?_
    have : findNow d (enc k) ((e :: es).map (mkE enc)) 0 = none := by simp [findNow, mkE, h]
    rw [this]
    exact findAsking_run K k (e :: es) 0 w
  simp only [findKey]
  rw [Sem.run_bind, run_underlying hd]
  simp only [Result.andThen]
  rw [findNow_run h]
  simp [Sem.run_pure]

/-- what the entries say at a key -/
def getE (es : List (Ent κ)) (k : κ) : Option Value := (es.find? (fun e => decide (k = e.1))).map (fun e => e.2.1)
theorem findE_get (k : κ) : ∀ (es : List (Ent κ)) (i : Nat), (findE k es i).map Prod.snd = getE es k
  | [], i => rfl
  | e :: es, i => by
    by_cases h : k = e.1
    · simp [findE, getE, h]
    · simp only [findE, getE, h, if_false, List.find?_cons, decide_false]
      have := findE_get k es (i + 1)
      simpa [getE] using this

/-- BLOCK b OF w IS A MAP OF AT MOST n ENTRIES THAT ANSWERS f. -/
def MapAt (w : World) (enc : κ → Value) (b : Nat) (n : Nat) (f : κ → Option Value) : Prop :=
  ∃ (es : List (Ent κ)) (clock : Nat), w.heap[b]? = some (.map (es.map (mkE enc)).toArray clock) ∧ (es.map Prod.fst).Nodup ∧ es.length ≤ n ∧ ∀ k, f k = getE es k

theorem MapAt.made (w : World) (enc : κ → Value) : MapAt (w.alloc (.map #[] 0)) enc w.heap.size 0 (fun _ => none) :=
  ⟨[], 0, World.alloc_heap_new w _, (by simp), Nat.le_refl _, fun _ => rfl⟩
theorem MapAt.lt {w : World} {enc : κ → Value} {b n : Nat} {f : κ → Option Value} (h : MapAt w enc b n f) : b < w.heap.size := by
  obtain ⟨es, clock, hb, _⟩ := h
  exact (Array.getElem?_eq_some_iff.1 hb).1
theorem MapAt.move {w w' : World} {enc : κ → Value} {b n : Nat} {f : κ → Option Value} (h : MapAt w enc b n f) (hk : w'.heap[b]? = w.heap[b]?) : MapAt w' enc b n f := by
  obtain ⟨es, clock, hb, hr⟩ := h
  exact ⟨es, clock, hk.trans hb, hr⟩

/-- m[k], with or without ok -/
theorem MapAt.lookup {w : World} {enc : κ → Value} {b n : Nat} {f : κ → Option Value} (h : MapAt w enc b n f) {t kt e : TypeId} (K : KeyOK P kt enc) (ht : P.underlying t = some (.map kt e)) {z : Value} (hz : ∀ w, (zeroValue e).run P w = .ok z w) (k : κ) (ok : Bool) :
    (Instr.lookup t (.map (some b)) (enc k) ok).run P w = .ok (if ok then .tuple #[(f k).getD z, .bool (f k).isSome] else (f k).getD z) w := by
  obtain ⟨es, clock, hb, _, _, hf⟩ := h
  have hg : (getObj b).run P w = .ok (.map (es.map (mkE enc)).toArray clock) w := by simp [getObj, Sem.run, hb]
  have hfe := findE_get k es 0
  rw [← hf k] at hfe
  simp only [Instr.lookup]
  rw [Sem.run_bind, run_underlying ht]
  simp only [Result.andThen]
  rw [Sem.run_bind]
  simp only [Sem.run_bind, hg, Result.andThen, Sem.run_pure, K.chk, findKey_run K]
  cases hF : findE k es 0 with
  | none =>
    rw [hF] at hfe
    have : f k = none := by simpa using hfe.symm
    simp [this, hz, Result.andThen]
  | some p => ?_
  obtain ⟨i, v⟩ := p
  rw [hF] at hfe
  have : f k = some v := by simpa using hfe.symm
  simp [this]

def upd (k : κ) (v : Value) : List (Ent κ) → List (Ent κ)
  | [] => []
  | e :: es => if k = e.1 then (e.1, v, e.2.2) :: es else e :: upd k v es
def del (k : κ) : List (Ent κ) → List (Ent κ)
  | [] => []
  | e :: es => if k = e.1 then es else e :: del k es

theorem findE_ge (k : κ) : ∀ (es : List (Ent κ)) (j i : Nat) (v : Value), findE k es j = some (i, v) → j ≤ i ∧ i < j + es.length
  | [], j, i, v, h => by simp [findE] at h
  | e :: es, j, i, v, h => by
    by_cases hk : k = e.1
    · simp [findE, hk] at h; simp; omega
    · simp only [findE, hk, if_false] at h
      have := findE_ge k es (j + 1) i v h
      simp; omega

theorem upd_modify (enc : κ → Value) (k : κ) (v : Value) : ∀ (es : List (Ent κ)) (j i : Nat) (u : Value), findE k es j = some (i, u) →
    (es.map (mkE enc)).modify (i - j) (fun e => { e with key := enc k, val := v }) = (upd k v es).map (mkE enc)
  | [], j, i, u, h => by simp [findE] at h
  | e :: es, j, i, u, h => by
    by_cases hk : k = e.1
    · simp [findE, hk] at h
      obtain ⟨rfl, _⟩ := h
      simp [upd, hk, mkE]
    · simp only [findE, hk, if_false] at h
      have hle := (findE_ge k es (j + 1) i u h).1
      obtain ⟨m, hm⟩ : ∃ m, i - j = m + 1 := ⟨i - j - 1, (by omega)⟩
      have ih := upd_modify enc k v es (j + 1) i u h
      have hm2 : i - (j + 1) = m := by omega
      rw [hm2] at ih
      rw [hm]
      simp [upd, hk, ih]

theorem del_erase (enc : κ → Value) (k : κ) : ∀ (es : List (Ent κ)) (j i : Nat) (u : Value), findE k es j = some (i, u) →
    (es.map (mkE enc)).eraseIdx (i - j) = (del k es).map (mkE enc)
  | [], j, i, u, h => by simp [findE] at h
  | e :: es, j, i, u, h => by
    by_cases hk : k = e.1
    · simp [findE, hk] at h
      obtain ⟨rfl, _⟩ := h
      simp [del, hk]
    · simp only [findE, hk, if_false] at h
      have hle := (findE_ge k es (j + 1) i u h).1
      obtain ⟨m, hm⟩ : ∃ m, i - j = m + 1 := ⟨i - j - 1, (by omega)⟩
      have ih := del_erase enc k es (j + 1) i u h
      have hm2 : i - (j + 1) = m := by omega
      rw [hm2] at ih
      rw [hm]
      simp [del, hk, ih]

theorem getE_upd (k k' : κ) (v : Value) : ∀ es : List (Ent κ), (∃ u, getE es k = some u) → getE (upd k v es) k' = if k' = k then some v else getE es k'
  | [], h => by obtain ⟨u, h⟩ := h; simp [getE] at h
  | e :: es, h => by
    by_cases hk : k = e.1
    · subst hk
      by_cases h' : k' = e.1
      · simp [upd, getE, h']
      · simp [upd, getE, h']
    · have h2 : ∃ u, getE es k = some u := by obtain ⟨u, h⟩ := h; exact ⟨u, (by simpa [getE, hk] using h)⟩
      have ih := getE_upd k k' v es h2
      by_cases h' : k' = e.1
      · have : ¬ k' = k := fun e2 => hk (e2.symm.trans h')
        simp [upd, hk, getE, h']
        intro e3; exact absurd e3.symm hk
      · simpa [upd, hk, getE, h'] using ih
theorem upd_keys (k : κ) (v : Value) : ∀ es : List (Ent κ), (upd k v es).map Prod.fst = es.map Prod.fst
  | [] => rfl
  | e :: es => by
    by_cases hk : k = e.1
    · simp [upd, hk]
    · simp [upd, hk, upd_keys k v es]
theorem getE_none {k : κ} : ∀ {es : List (Ent κ)}, getE es k = none ↔ ∀ e ∈ es, k ≠ e.1
  | [] => by simp [getE]
  | e :: es => by
    by_cases hk : k = e.1
    · simp [getE, hk]
    · have := @getE_none k es
      simp [getE, hk] at this ⊢
theorem del_sub (k : κ) : ∀ es : List (Ent κ), List.Sublist (del k es) es
  | [] => List.Sublist.slnil
  | e :: es => by
    by_cases hk : k = e.1
    · simp [del, hk]
    · simp only [del, hk, if_false]; exact (del_sub k es).cons_cons _
theorem getE_del (k k' : κ) : ∀ es : List (Ent κ), (es.map Prod.fst).Nodup → getE (del k es) k' = if k' = k then none else getE es k'
  | [], _ => by simp [del, getE]
  | e :: es, h => by
    simp only [List.map_cons, List.nodup_cons] at h
    by_cases hk : k = e.1
    · subst hk
      by_cases h' : k' = e.1
      · subst h'
        simp only [del, if_true]
        rw [getE_none]
        intro x hx e1
        exact h.1 (by rw [e1]; exact List.mem_map.2 ⟨x, hx, rfl⟩)
      · simp [del, getE, h']
    · have ih := getE_del k k' es h.2
      by_cases h' : k' = e.1
      · have : ¬ k' = k := fun e2 => hk (e2.symm.trans h')
        simp [del, hk, getE, h']
        intro e3; exact absurd e3.symm hk
      · simpa [del, hk, getE, h'] using ih
theorem getE_push (k k' : κ) (v : Value) (c : Nat) : ∀ es : List (Ent κ), getE es k = none → getE (es ++ [(k, v, c)]) k' = if k' = k then some v else getE es k'
  | [], _ => by
    by_cases h : k' = k <;> simp [getE, h]
  | e :: es, h => by
    have hk : ¬ k = e.1 := by rw [getE_none] at h; exact h e (by simp)
    have h2 : getE es k = none := by simpa [getE, hk] using h
    have ih := getE_push k k' v c es h2
    by_cases h' : k' = e.1
    · have : ¬ k' = k := fun e2 => hk (e2.symm.trans h')
      simp [getE, h']
      intro e3; exact absurd e3.symm hk
    · simpa [getE, h'] using ih

def setBlk (w : World) (b : Nat) (o : Obj) : World := { w with heap := w.heap.setIfInBounds b o }
theorem setBlk_grown (w : World) (b : Nat) (o : Obj) : w.grownBy (setBlk w b o) (some b) :=
  ⟨rfl, rfl, rfl, (by simp [setBlk]), fun i _ hi => by
    simp only [setBlk]
    rw [Array.getElem?_setIfInBounds_ne]
    intro e; exact hi (by rw [e])⟩
theorem setBlk_same {w : World} {b : Nat} (h : b < w.heap.size) (o : Obj) : (setBlk w b o).heap[b]? = some o := by
  simp [setBlk, h]
theorem run_setObj_blk {w : World} {b : Nat} {es : Array MapEntry} {clock : Nat} (o : Obj) (h : w.heap[b]? = some (.map es clock)) : (setObj b o).run P w = .ok () (setBlk w b o) := by
  simp [setObj, Sem.run, h, setBlk]

/-- m[k] = v -/
theorem MapAt.update {w : World} {enc : κ → Value} {b n : Nat} {f : κ → Option Value} (h : MapAt w enc b n f) {t kt e : TypeId} (K : KeyOK P kt enc) (ht : P.underlying t = some (.map kt e)) (k : κ) (v : Value) :
    ∃ w', (Instr.mapUpdate t (.map (some b)) (enc k) v).run P w = .ok () w' ∧ MapAt w' enc b (n + 1) (fun k' => if k' = k then some v else f k') ∧ w.grownBy w' (some b) := by
  have hlt := h.lt
  obtain ⟨es, clock, hb, hn, hs, hf⟩ := h
  have hg : (getObj b).run P w = .ok (.map (es.map (mkE enc)).toArray clock) w := by simp [getObj, Sem.run, hb]
  have hfe := findE_get k es 0
  rw [← hf k] at hfe
  cases hF : findE k es 0 with
  | none =>
    refine ⟨setBlk w b (.map ((es ++ [(k, v, clock)]).map (mkE enc)).toArray (clock + 1)), ?_, ⟨es ++ [(k, v, clock)], clock + 1, setBlk_same hlt _, ?_, (by simp; omega), ?_⟩, setBlk_grown _ _ _⟩
    · simp only [Instr.mapUpdate]
      rw [Sem.run_bind, run_underlying ht]
      simp only [Result.andThen, Sem.run_bind, hg, K.chk, findKey_run K, hF]
      rw [run_setObj_blk _ hb]
      simp [mkE]
    · have hnone : getE es k = none := by rw [← hf k]; rw [hF] at hfe; simpa using hfe.symm
      rw [getE_none] at hnone
      rw [List.map_append, List.nodup_append]
      refine ⟨hn, (by simp), ?_⟩
      intro a ha c hc e1
      simp at hc
      subst hc e1
      obtain ⟨x, hx, rfl⟩ := List.mem_map.1 ha
      exact hnone x hx rfl
    intro k'
    have hnone : getE es k = none := by rw [← hf k]; rw [hF] at hfe; simpa using hfe.symm
    show (if k' = k then some v else f k') = _
    rw [getE_push k k' v clock es hnone, hf k']
  | some p => ?_
  obtain ⟨i, u⟩ := p
  have hget : getE es k = some u := by rw [← hf k]; rw [hF] at hfe; simpa using hfe.symm
  have hmod := upd_modify enc k v es 0 i u hF
  rw [Nat.sub_zero] at hmod
  refine ⟨setBlk w b (.map ((upd k v es).map (mkE enc)).toArray clock), ?_, ⟨upd k v es, clock, setBlk_same hlt _, (by rw [upd_keys]; exact hn), ?_, ?_⟩, setBlk_grown _ _ _⟩
  · have hkey : ((((es.map (mkE enc)).toArray)[i]?).map (·.key)).getD (enc k) = enc k := by
      have hi := (findE_ge k es 0 i u hF).2
      have : ∀ (es : List (Ent κ)) (j i : Nat) (u : Value), findE k es j = some (i, u) → ((es.map (mkE enc))[i - j]?).map (·.key) = some (enc k) := by
        intro es
        induction es with
        | nil => intro j i u h; simp [findE] at h
        | cons e es ih =>
          intro j i u h
          by_cases hk : k = e.1
          · simp [findE, hk] at h
            obtain ⟨rfl, _⟩ := h
            simp [mkE, hk]
          · simp only [findE, hk, if_false] at h
            have hle := (findE_ge k es (j + 1) i u h).1
            obtain ⟨m, hm⟩ : ∃ m, i - j = m + 1 := ⟨i - j - 1, (by omega)⟩
            have := ih (j + 1) i u h
            have hm2 : i - (j + 1) = m := by omega
            rw [hm2] at this
            rw [hm]
            simpa using this
      have h2 := this es 0 i u hF
      rw [Nat.sub_zero] at h2
      simp only [List.getElem?_toArray]
      rw [h2]
      rfl
    simp only [Instr.mapUpdate]
    rw [Sem.run_bind, run_underlying ht]
    simp only [Result.andThen, Sem.run_bind, hg, K.chk, findKey_run K, hF, hkey, keyThatStays, K.bits, if_true, Sem.run_pure]
    rw [run_setObj_blk _ hb]
    simp [List.modify_toArray, hmod]
  · have : (upd k v es).length = es.length := by have := congrArg List.length (upd_keys k v es); simpa using this
    omega
  intro k'
  show (if k' = k then some v else f k') = _
  rw [getE_upd k k' v es ⟨u, hget⟩, hf k']

/-- delete(m, k) -/
theorem MapAt.delete {w : World} {enc : κ → Value} {b n : Nat} {f : κ → Option Value} (h : MapAt w enc b n f) {t kt e ty : TypeId} (K : KeyOK P kt enc) (ht : P.underlying t = some (.map kt e)) (k : κ) (ats : Array TypeId) (hats : ats[0]? = some t) :
    ∃ w', (Builtin.delete_ ats ty #[.map (some b), enc k]).run P w = .ok (.tuple #[]) w' ∧ MapAt w' enc b n (fun k' => if k' = k then none else f k') ∧ w.grownBy w' (some b) := by
  have hlt := h.lt
  obtain ⟨es, clock, hb, hn, hs, hf⟩ := h
  have hg : (getObj b).run P w = .ok (.map (es.map (mkE enc)).toArray clock) w := by simp [getObj, Sem.run, hb]
  have hfe := findE_get k es 0
  rw [← hf k] at hfe
  cases hF : findE k es 0 with
  | none =>
    have hnone : getE es k = none := by rw [← hf k]; rw [hF] at hfe; simpa using hfe.symm
    refine ⟨setBlk w b (.map (es.map (mkE enc)).toArray clock), ?_, ⟨es, clock, setBlk_same hlt _, hn, hs, ?_⟩, setBlk_grown _ _ _⟩
    · simp only [Builtin.delete_, hats, List.getElem?_toArray, List.getElem?_cons_zero, List.getElem?_cons_succ]
      rw [Sem.run_bind, run_underlying ht]
      simp only [Result.andThen, Sem.run_bind, hg, K.chk, findKey_run K, hF, Sem.run_pure]
      rw [run_setObj_blk _ hb]
    intro k'
    by_cases hk : k' = k
    rotate_left
    · simp [hk, hf]
    subst hk; simp [hnone]
  | some p => ?_
  obtain ⟨i, u⟩ := p
  have her := del_erase enc k es 0 i u hF
  rw [Nat.sub_zero] at her
  have hi := (findE_ge k es 0 i u hF).2
  refine ⟨setBlk w b (.map ((del k es).map (mkE enc)).toArray clock), ?_, ⟨del k es, clock, setBlk_same hlt _, ((del_sub k es).map Prod.fst).nodup hn, Nat.le_trans (del_sub k es).length_le hs, ?_⟩, setBlk_grown _ _ _⟩
  · simp only [Builtin.delete_, hats, List.getElem?_toArray, List.getElem?_cons_zero, List.getElem?_cons_succ]
    rw [Sem.run_bind, run_underlying ht]
    simp only [Result.andThen, Sem.run_bind, hg, K.chk, findKey_run K, hF, Sem.run_pure]
    rw [run_setObj_blk _ hb]
    have : ((es.map (mkE enc)).toArray).eraseIdxIfInBounds i = ((del k es).map (mkE enc)).toArray := by
      unfold Array.eraseIdxIfInBounds
      rw [dif_pos (by simpa using hi)]
      simp [her]
    rw [this]
  intro k'
  show (if k' = k then none else f k') = _
  rw [getE_del k k' es hn, hf k']
end Go.Proofs.YtcgdbjojjpoegaaM

namespace Go.Proofs.Ytcgdbjojjpoegaa.P
open Go.RowKit Go.Shelf Go.Proofs.YtcgdbjojjpoegaaW.PrintWords Go.Proofs.YtcgdbjojjpoegaaW.PrintLast Go.Proofs.YtcgdbjojjpoegaaW.PrintMore
attribute [local go_sem] Oper.semAt_some
set_option linter.unusedVariables false
set_option linter.unusedSimpArgs false

/-- a step as the iterator hands it over: it leads to a place -/
abbrev OutStep := { s : S117 // 0 ≤ s.f2 ∧ s.f2 < 14 }
def enc117' (s : S117) : Value := .agg #[.int .i64 s.f0, .int .i64 s.f1, .int .i64 s.f2]
def encS (x : OutStep) : Array Value := #[enc117' x.1]
/-- an amount as a step from a place -/
def stepOf (from_ : Int) (k : Nat) (a : Am) : S117 := if a.tt = from_ then ⟨(k : Int), a.tt, a.fr⟩ else ⟨(k : Int), a.fr, a.tt⟩
def isStep (den from_ but : Int) (k : Nat) (a : Am) : Bool := !((k : Int) == but) && ((stepOf from_ k a).f1 == from_ && brk den a)
/-- the steps from a place by the first amounts -/
def stepsTo (den from_ but : Int) (am : List Am) : Nat → List S117
  | 0 => []
  | k + 1 => stepsTo den from_ but am k ++ if isStep den from_ but k (amAt am k) = true then [stepOf from_ k (amAt am k)] else []
def AmOk (am : List Am) : Prop := ∀ a ∈ am, (0 ≤ a.fr ∧ a.fr < 14) ∧ (0 ≤ a.tt ∧ a.tt < 14)
theorem stepsTo_len (den from_ but : Int) (am : List Am) : ∀ k, (stepsTo den from_ but am k).length ≤ k
  | 0 => by simp [stepsTo]
  | k + 1 => by
    have := stepsTo_len den from_ but am k
    simp only [stepsTo, List.length_append]
    split <;> simp <;> omega
theorem stepsTo_prefix (den from_ but : Int) (am : List Am) (k : Nat) : ∀ n, k ≤ n → stepsTo den from_ but am k <+: stepsTo den from_ but am n
  | 0, h => by
    obtain rfl : k = 0 := by omega
    exact List.prefix_refl _
  | n + 1, h => by
    by_cases e : k = n + 1
    · subst e; exact List.prefix_refl _
    · exact (stepsTo_prefix den from_ but am k n (by omega)).trans (List.prefix_append _ _)
theorem stepOf_ok {am : List Am} (h : AmOk am) (from_ : Int) (k n : Nat) (hk : k < am.length) : 0 ≤ (stepOf from_ n am[k]).f2 ∧ (stepOf from_ n am[k]).f2 < 14 := by
  have := h _ (List.getElem_mem hk)
  unfold stepOf
  split
  · exact this.1
  exact this.2
/-- what a round of a loop over steps keeps: some blocks, and the book but for its marks -/
def KpS (K : Nat → Prop) (B : Nat) (den : Int) (vc vA : Value) (W W' : World) : Prop :=
  W.heap.size ≤ W'.heap.size ∧ (∀ q, K q → W'.heap[q]? = W.heap[q]?) ∧ ∀ seen, seen.length = 14 → W.heap[B]? = some (.cells (bookCells den vc vA seen) 96 (0, 0)) → ∃ seen', seen'.length = 14 ∧ W'.heap[B]? = some (.cells (bookCells den vc vA seen') 96 (0, 0))
theorem KpS.trans {K : Nat → Prop} {B : Nat} {den : Int} {vc vA : Value} {X Y Z : World} (h : KpS K B den vc vA X Y) (k : KpS K B den vc vA Y Z) : KpS K B den vc vA X Z :=
  ⟨Nat.le_trans h.1 k.1, fun q hq => (k.2.1 q hq).trans (h.2.1 q hq), fun s hs hb => by
    obtain ⟨s1, h1, h2⟩ := h.2.2 s hs hb
    exact k.2.2 s1 h1 h2⟩
/-- what the iterator reads -/
structure StS (W : World) (B base : Nat) (den : Int) (vc : Value) (bA cA : Nat) (am : List Am) (bx bf bb bn : Nat) (from_ but : Int) : Prop where
  x : Blk W bx 90 #[.pointer (some ⟨B, 0, none⟩)]
  f : Blk W bf 3 #[.int .i64 from_]
  b : Blk W bb 3 #[.int .i64 but]
  n : Blk W bn 100 #[.func (.func 69) #[.pointer (some ⟨B, 0, none⟩)] #[]]
  k : ∃ seen, Bk W B base den vc bA cA am seen
section
variable {W W' : World} {B base : Nat} {den : Int} {vc : Value} {bA cA : Nat} {am : List Am} {bx bf bb bn : Nat} {from_ but : Int}
theorem StS.below (h : StS W B base den vc bA cA am bx bf bb bn from_ but) (hb : Below W.heap.size W W') : StS W' B base den vc bA cA am bx bf bb bn from_ but := by
  obtain ⟨s, hk⟩ := h.k
  exact ⟨h.x.below hb h.x.lt, h.f.below hb h.f.lt, h.b.below hb h.b.lt, h.n.below hb h.n.lt, s, hk.below hb⟩
theorem StS.kp {K : Nat → Prop} (h : StS W B base den vc bA cA am bx bf bb bn from_ but) (hK : K bx ∧ K bf ∧ K bb ∧ K bn ∧ K bA) (hg : KpS K B den vc (.slice (some ⟨bA, 0, none⟩) am.length cA) W W') : StS W' B base den vc bA cA am bx bf bb bn from_ but := by
  obtain ⟨s, hk⟩ := h.k
  obtain ⟨s', h1, h2⟩ := hg.2.2 s hk.at_.len hk.at_.blk
  refine ⟨(hg.2.1 _ hK.1).trans h.x, (hg.2.1 _ hK.2.1).trans h.f, (hg.2.1 _ hK.2.2.1).trans h.b, (hg.2.1 _ hK.2.2.2.1).trans h.n, s', ⟨h2, ?_, h1⟩, hk.lt⟩
  exact own_move hk.at_.own (fun q hq => by
    have : q = bA := by simpa [Value.ownBlock] using hq.symm
    subst this
    exact hg.2.1 _ hK.2.2.2.2)
end
set_option maxHeartbeats 2000000 in
set_option maxRecDepth 100000 in
theorem steps_stops (K : Nat → Prop) (B base : Nat) (den : Int) (vc : Value) (bA cA : Nat) (am : List Am) (bx bf bb bn : Nat) (from_ but : Int) (w : World)
    (hs : StS w B base den vc bA cA am bx bf bb bn from_ but) (hK : K bx ∧ K bf ∧ K bb ∧ K bn ∧ K bA) (hok : AmOk am) (hd : den ≠ 0) (hn : am.length ≤ 100) :
    SeqStopsK Fence.wide 3 Try.prog 111 #[.pointer (some ⟨bx, 0, none⟩), .pointer (some ⟨bf, 0, none⟩), .pointer (some ⟨bb, 0, none⟩), .pointer (some ⟨bn, 0, none⟩)] encS (KpS K B den vc (.slice (some ⟨bA, 0, none⟩) am.length cA)) (fun xs => xs.map (·.1) = stepsTo den from_ but am am.length) (fun xs => xs.map (·.1) <+: stepsTo den from_ but am am.length) am.length w := by
  intro ll J Jx W hW hJ hJx hY h0
  have hro : Fence.wide.round = none := rfl
  refine callsIn_of_wp Try.func111 rfl trivial ?_ hro
  simp only [Try.ntmps111, List.size_toArray, List.length_cons, List.length_nil, Nat.reduceAdd, Nat.reduceSub, Array.replicate_succ, Array.replicate_zero, List.push_toArray, List.append_toArray, List.nil_append, List.cons_append]
  have HS := Aside0.mk (hs.below hW)
  have HK := Aside0.mk hK
  have HOK := Aside0.mk hok
  have HN := Aside0.mk hn
  have cx : W.cell? ⟨bx, 0, none⟩ = some (.pointer (some ⟨B, 0, none⟩)) := HS.out.x.cell 0
  have cS : W.cell? ⟨B, 2, none⟩ = some (.slice (some ⟨bA, 0, none⟩) am.length cA) := by obtain ⟨s, hk⟩ := HS.out.k; exact hk.at_.c2
  have HY := Aside0.mk hY
  have HJ := Aside0.mk hJ
  clear hs hK hY hJ hok hn
  gi_wp2
  gi_loopg [14] am.length (fun kq v14 w' => ∃ (k : Nat) (pre : List OutStep), v14 = .int .i64 k ∧ Aside0 (k + kq = am.length) ∧ Aside0 (pre.map (·.1) = stepsTo den from_ but am k) ∧ Aside0 (J pre w') ∧ Aside0 (StS w' B base den vc bA cA am bx bf bb bn from_ but ∧ W.heap.size ≤ w'.heap.size))
  case atStart => exact ⟨0, [], rfl, ⟨(by omega)⟩, ⟨rfl⟩, ⟨h0⟩, ⟨HS.out, Nat.le_refl _⟩⟩
  clear h0 cx cS HS
  obtain ⟨k, pre, rfl, HI, HP, HJP, HS⟩ := hrel
  cases gk with
  | zero =>
    have hk : k = am.length := by have := HI.out; omega
    have hlt2 : decide ((k : Int) < (am.length : Int)) = false := decide_eq_false (by omega)
    have hlt3 : decide (k < am.length) = false := by rw [hk]; simp
    gi_wp2
    go_end0
    exact ⟨⟨_, rfl⟩, .inl ⟨pre, (by rw [← hk]; exact HP.out), HJP.out⟩⟩
  | succ k1 => ?_
  have hk : k < am.length := by have := HI.out; omega
  have hlt2 : decide ((k : Int) < (am.length : Int)) = true := decide_eq_true (by omega)
  have hlt3 : decide (k < am.length) = true := by simp [hk]
  have hk100 : (k : Int) ≤ 100 := by have := HN.out; omega
  have hlt4 : (k : Int) < (am.length : Int) := by omega
  obtain ⟨s0, hkk⟩ := HS.out.1.k
  obtain ⟨c0, c1, c2⟩ := hkk.cell k hk
  have hAsz := hkk.base_le.2
  have hAle := hkk.len_le.1
  clear hkk s0
  have hpl : pre.length < am.length := by
    have h1 := congrArg List.length HP.out
    have h2 := stepsTo_len den from_ but am k
    simp only [List.length_map] at h1
    omega
  have HO := Lib.hid (show stepsTo den from_ but am (k + 1) = stepsTo den from_ but am k ++ if isStep den from_ but k am[k] = true then [stepOf from_ k am[k]] else [] by rw [stepsTo, amAt_nat am k hk])
  have HSO := Lib.hid (stepOf_ok HOK.out from_ k k hk)
  have HBR := fun (W : World) (s : List Int) (h : Bk W B base den vc bA cA am s) => broken_calls h k hk hd
  obtain ⟨a, ha⟩ : ∃ a, am[k] = a := ⟨_, rfl⟩
  rw [ha] at HO HSO c0 c1 c2
  simp only [ha] at HBR
  replace HBR := Lib.hid HBR
  rcases a with ⟨fr, tt, pa⟩
  dsimp only at c0 c1 c2
  clear ha
  by_cases hq : tt = from_
  · have hqe : (tt == from_) = true := by simp [hq]
    have HS2 := Lib.hid (show stepOf from_ k ⟨fr, tt, pa⟩ = ⟨(k : Int), tt, fr⟩ from if_pos hq)
    rw [HS2.out] at HO HSO
    have hst := HS2
    clear HS2
    have cf : wr.cell? ⟨bf, 0, none⟩ = some (.int .i64 from_) := HS.out.1.f.cell 0
    have cb : wr.cell? ⟨bb, 0, none⟩ = some (.int .i64 but) := HS.out.1.b.cell 0
    have cn : wr.cell? ⟨bn, 0, none⟩ = some (.func (.func 69) #[.pointer (some ⟨B, 0, none⟩)] #[]) := HS.out.1.n.cell 0
    have lf := HS.out.1.f.lt
    have lb := HS.out.1.b.lt
    have ln := HS.out.1.n.lt
    subst hq
    gi_upto_region 6 with (fail)
    obtain ⟨W2, e2⟩ : ∃ W2, (wr.alloc (.cells #[.int .i64 fr, .int .i64 tt, .int .i64 pa] 98)).alloc (.cells #[.int .i64 (k : Int), .int .i64 tt, .int .i64 fr] 117) = W2 := ⟨_, rfl⟩
    have HB2 := Lib.hid (show Below wr.heap.size wr W2 from e2 ▸ boxes2 wr _ _)
    have BS : Blk W2 (wr.heap.size + 1) 117 #[.int .i64 (k : Int), .int .i64 tt, .int .i64 fr] := by
      rw [← e2]
      have := Blk.new (wr.alloc (.cells #[.int .i64 fr, .int .i64 tt, .int .i64 pa] 98)) #[.int .i64 (k : Int), .int .i64 tt, .int .i64 fr] 117
      rwa [World.size_alloc] at this
    have HJ2 := Aside0.mk (show J pre W2 by
      rw [← e2]
      exact HJ.out pre _ _ none (HJ.out pre _ _ none HJP.out (World.grownBy_alloc wr _ none) (fun r e => by cases e)) (World.grownBy_alloc _ _ none) (fun r e => by cases e))
    have HS2 := Lib.hid (HS.out.1.below HB2.out)
    have HSZ2 := Lib.hid (Nat.le_trans HS.out.2 HB2.out.size)
    rw [e2]
    clear e2 cf cb cn lf lb ln c0 c1 c2
    generalize wr.heap.size + 1 = bs at *
    obtain ⟨sn, hk2⟩ := HS2.out.k
    have cf : W2.cell? ⟨bf, 0, none⟩ = some (.int .i64 tt) := HS2.out.f.cell 0
    have cb : W2.cell? ⟨bb, 0, none⟩ = some (.int .i64 but) := HS2.out.b.cell 0
    have cn : W2.cell? ⟨bn, 0, none⟩ = some (.func (.func 69) #[.pointer (some ⟨B, 0, none⟩)] #[]) := HS2.out.n.cell 0
    have z0 : W2.cell? ⟨bs, 0, none⟩ = some (.int .i64 (k : Int)) := BS.cell 0
    have z1 : W2.cell? ⟨bs, 1, none⟩ = some (.int .i64 tt) := BS.cell 1
    have z2 : W2.cell? ⟨bs, 2, none⟩ = some (.int .i64 fr) := BS.cell 2
    by_cases hkb : (k : Int) = but
    · have hkb1 : ((k : Int) != but) = false := by simp [hkb]
      have HISN := Lib.hid (show isStep den tt but k ⟨fr, tt, pa⟩ = false by rw [isStep]; simp [hkb])
      clear hkb
      gi_wp2_with fail
      refine ⟨fun _ h => (by cases h), ?_⟩
      gi_wp2_with fail
      gi_roundg k1
      case rel => exact ⟨k + 1, pre, (by go_num), ⟨b21_⟩, ⟨(by rw [HO.out, if_neg (by rw [HISN.out]; simp), List.append_nil]; exact HP.out)⟩, HJ2, ⟨HS2.out, HSZ2.out⟩⟩
      case measure => omega
    have hkb1 : ((k : Int) != but) = true := by simp [hkb]
    have HNB := Lib.hid hkb
    have HK2 := Lib.hid hk2
    have HN2 := Lib.hid hkb
    cases hbr : brk den ⟨fr, tt, pa⟩ with
    | false =>
      rw [hbr] at HBR
      have HISN := Lib.hid (show isStep den tt but k ⟨fr, tt, pa⟩ = false by rw [isStep, hst.out, hbr]; simp)
      clear hbr
      gi_wp2_with (refine ⟨trivial, ?_⟩; gi_at_call 69; refine (callsIn_wide.2 (HBR.out W2 _ HK2.out)).mono ?_; rintro e W3 ⟨rfl, hd3⟩; have HB3 := Lib.hid (drawn_below hd3); clear hd3)
      have HS3 := Lib.hid (HS2.out.below HB3.out)
      have HJ3 := Aside0.mk (HJ.out pre _ _ none HJ2.out (grown_of_below HB3.out none) (fun r e => by cases e))
      have HSZ3 := Lib.hid (Nat.le_trans HSZ2.out HB3.out.size)
      refine ⟨fun _ h => (by cases h), ?_⟩
      gi_wp2_with fail
      gi_roundg k1
      case rel => exact ⟨k + 1, pre, (by go_num), ⟨b21_⟩, ⟨(by rw [HO.out, if_neg (by rw [HISN.out]; simp), List.append_nil]; exact HP.out)⟩, HJ3, ⟨HS3.out, HSZ3.out⟩⟩
      case measure => omega
    | true => ?_
    rw [hbr] at HBR
    have HIST := Lib.hid (show isStep den tt but k ⟨fr, tt, pa⟩ = true by rw [isStep, hst.out, hbr]; simp [HNB.out])
    clear hbr
    gi_wp2_with (refine ⟨trivial, ?_⟩; gi_at_call 69; refine (callsIn_wide.2 (HBR.out W2 _ HK2.out)).mono ?_; rintro e W3 ⟨rfl, hd3⟩; have HB3 := Lib.hid (drawn_below hd3); clear hd3; have HJ3 := Aside0.mk (HJ.out pre _ _ none HJ2.out (grown_of_below HB3.out none) (fun r e => by cases e)); obtain ⟨fn, tmps, assign, body, hy, hR⟩ := HY.out pre ⟨_, HSO.out⟩ _ HJ3.out hpl; have hy' : (Instr.yield ll #[.agg #[.int .i64 (k : Int), .int .i64 tt, .int .i64 fr]]).run Try.prog W3 = _ := hy; have HR3 := Lib.hid hR; clear hy hR; have BS3 := BS.below HB3.out BS.lt; have w0 : W3.cell? ⟨bs, 0, none⟩ = some (.int .i64 (k : Int)) := BS3.cell 0; have w1 : W3.cell? ⟨bs, 1, none⟩ = some (.int .i64 tt) := BS3.cell 1; have w2 : W3.cell? ⟨bs, 2, none⟩ = some (.int .i64 fr) := BS3.cell 2; clear BS3)
    refine HR3.out.mono ?_
    rintro e W4 (⟨rfl, hJ4, hk4⟩ | ⟨rfl, hJx4⟩)
    · have HS4 := Lib.hid ((HS2.out.below HB3.out).kp HK.out hk4)
      have HSZ4 := Lib.hid (Nat.le_trans (Nat.le_trans HSZ2.out HB3.out.size) hk4.1)
      gi_wp2
      gi_roundg k1
      case rel => exact ⟨k + 1, _, (by go_num), ⟨b21_⟩, ⟨(by rw [HO.out, if_pos HIST.out, List.map_append, HP.out]; rfl)⟩, ⟨hJ4⟩, ⟨HS4.out, HSZ4.out⟩⟩
      case measure => omega
    gi_wp2
    refine bodyPost_ret (results_none rfl _ _ _) rfl ?_
    refine ⟨⟨_, rfl⟩, .inr ⟨_, ?_, hJx4⟩⟩
    rw [List.map_append, HP.out]
    have h1 := HO.out
    rw [if_pos HIST.out] at h1
    have h2 := stepsTo_prefix den tt but am (k + 1) am.length (by omega)
    rw [h1] at h2
    exact h2
  have hqe : (tt == from_) = false := by simp [hq]
  have HS2 := Lib.hid (show stepOf from_ k ⟨fr, tt, pa⟩ = ⟨(k : Int), fr, tt⟩ from if_neg hq)
  rw [HS2.out] at HO HSO
  have hst := HS2
  clear HS2
  have cf : wr.cell? ⟨bf, 0, none⟩ = some (.int .i64 from_) := HS.out.1.f.cell 0
  have cb : wr.cell? ⟨bb, 0, none⟩ = some (.int .i64 but) := HS.out.1.b.cell 0
  have cn : wr.cell? ⟨bn, 0, none⟩ = some (.func (.func 69) #[.pointer (some ⟨B, 0, none⟩)] #[]) := HS.out.1.n.cell 0
  have lf := HS.out.1.f.lt
  have lb := HS.out.1.b.lt
  have ln := HS.out.1.n.lt
  gi_upto_region 6 with (fail)
  obtain ⟨W2, e2⟩ : ∃ W2, (wr.alloc (.cells #[.int .i64 fr, .int .i64 tt, .int .i64 pa] 98)).alloc (.cells #[.int .i64 (k : Int), .int .i64 fr, .int .i64 tt] 117) = W2 := ⟨_, rfl⟩
  have HB2 := Lib.hid (show Below wr.heap.size wr W2 from e2 ▸ boxes2 wr _ _)
  have BS : Blk W2 (wr.heap.size + 1) 117 #[.int .i64 (k : Int), .int .i64 fr, .int .i64 tt] := by
    rw [← e2]
    have := Blk.new (wr.alloc (.cells #[.int .i64 fr, .int .i64 tt, .int .i64 pa] 98)) #[.int .i64 (k : Int), .int .i64 fr, .int .i64 tt] 117
    rwa [World.size_alloc] at this
  have HJ2 := Aside0.mk (show J pre W2 by
    rw [← e2]
    exact HJ.out pre _ _ none (HJ.out pre _ _ none HJP.out (World.grownBy_alloc wr _ none) (fun r e => by cases e)) (World.grownBy_alloc _ _ none) (fun r e => by cases e))
  have HS2 := Lib.hid (HS.out.1.below HB2.out)
  have HSZ2 := Lib.hid (Nat.le_trans HS.out.2 HB2.out.size)
  rw [e2]
  clear e2 cf cb cn lf lb ln c0 c1 c2
  generalize wr.heap.size + 1 = bs at *
  obtain ⟨sn, hk2⟩ := HS2.out.k
  have cf : W2.cell? ⟨bf, 0, none⟩ = some (.int .i64 from_) := HS2.out.f.cell 0
  have cb : W2.cell? ⟨bb, 0, none⟩ = some (.int .i64 but) := HS2.out.b.cell 0
  have cn : W2.cell? ⟨bn, 0, none⟩ = some (.func (.func 69) #[.pointer (some ⟨B, 0, none⟩)] #[]) := HS2.out.n.cell 0
  have z0 : W2.cell? ⟨bs, 0, none⟩ = some (.int .i64 (k : Int)) := BS.cell 0
  have z1 : W2.cell? ⟨bs, 1, none⟩ = some (.int .i64 fr) := BS.cell 1
  have z2 : W2.cell? ⟨bs, 2, none⟩ = some (.int .i64 tt) := BS.cell 2
  by_cases hkb : (k : Int) = but
  · have hkb1 : ((k : Int) != but) = false := by simp [hkb]
    have HISN := Lib.hid (show isStep den from_ but k ⟨fr, tt, pa⟩ = false by rw [isStep]; simp [hkb])
    clear hkb
    gi_wp2_with fail
    refine ⟨fun _ h => (by cases h), ?_⟩
    gi_wp2_with fail
    gi_roundg k1
    case rel => exact ⟨k + 1, pre, (by go_num), ⟨b21_⟩, ⟨(by rw [HO.out, if_neg (by rw [HISN.out]; simp), List.append_nil]; exact HP.out)⟩, HJ2, ⟨HS2.out, HSZ2.out⟩⟩
    case measure => omega
  have hkb1 : ((k : Int) != but) = true := by simp [hkb]
  have HNB := Lib.hid hkb
  by_cases hs1 : fr = from_
  rotate_left
  · have hs2 : (fr == from_) = false := by simp [hs1]
    have HISN := Lib.hid (show isStep den from_ but k ⟨fr, tt, pa⟩ = false by rw [isStep, hst.out]; simp [hs1])
    gi_wp2_with fail
    refine ⟨fun _ h => (by cases h), ?_⟩
    gi_wp2_with fail
    gi_roundg k1
    case rel => exact ⟨k + 1, pre, (by go_num), ⟨b21_⟩, ⟨(by rw [HO.out, if_neg (by rw [HISN.out]; simp), List.append_nil]; exact HP.out)⟩, HJ2, ⟨HS2.out, HSZ2.out⟩⟩
    case measure => omega
  have hs2 : (fr == from_) = true := by simp [hs1]
  subst hs1
  have HK2 := Lib.hid hk2
  have HN2 := Lib.hid hkb
  cases hbr : brk den ⟨fr, tt, pa⟩ with
  | false =>
    rw [hbr] at HBR
    have HISN := Lib.hid (show isStep den fr but k ⟨fr, tt, pa⟩ = false by rw [isStep, hst.out, hbr]; simp)
    clear hbr
    gi_wp2_with (refine ⟨trivial, ?_⟩; gi_at_call 69; refine (callsIn_wide.2 (HBR.out W2 _ HK2.out)).mono ?_; rintro e W3 ⟨rfl, hd3⟩; have HB3 := Lib.hid (drawn_below hd3); clear hd3)
    have HS3 := Lib.hid (HS2.out.below HB3.out)
    have HJ3 := Aside0.mk (HJ.out pre _ _ none HJ2.out (grown_of_below HB3.out none) (fun r e => by cases e))
    have HSZ3 := Lib.hid (Nat.le_trans HSZ2.out HB3.out.size)
    refine ⟨fun _ h => (by cases h), ?_⟩
    gi_wp2_with fail
    gi_roundg k1
    case rel => exact ⟨k + 1, pre, (by go_num), ⟨b21_⟩, ⟨(by rw [HO.out, if_neg (by rw [HISN.out]; simp), List.append_nil]; exact HP.out)⟩, HJ3, ⟨HS3.out, HSZ3.out⟩⟩
    case measure => omega
  | true => ?_
  rw [hbr] at HBR
  have HIST := Lib.hid (show isStep den fr but k ⟨fr, tt, pa⟩ = true by rw [isStep, hst.out, hbr]; simp [HNB.out])
  clear hbr
  gi_wp2_with (refine ⟨trivial, ?_⟩; gi_at_call 69; refine (callsIn_wide.2 (HBR.out W2 _ HK2.out)).mono ?_; rintro e W3 ⟨rfl, hd3⟩; have HB3 := Lib.hid (drawn_below hd3); clear hd3; have HJ3 := Aside0.mk (HJ.out pre _ _ none HJ2.out (grown_of_below HB3.out none) (fun r e => by cases e)); obtain ⟨fn, tmps, assign, body, hy, hR⟩ := HY.out pre ⟨_, HSO.out⟩ _ HJ3.out hpl; have hy' : (Instr.yield ll #[.agg #[.int .i64 (k : Int), .int .i64 fr, .int .i64 tt]]).run Try.prog W3 = _ := hy; have HR3 := Lib.hid hR; clear hy hR; have BS3 := BS.below HB3.out BS.lt; have w0 : W3.cell? ⟨bs, 0, none⟩ = some (.int .i64 (k : Int)) := BS3.cell 0; have w1 : W3.cell? ⟨bs, 1, none⟩ = some (.int .i64 fr) := BS3.cell 1; have w2 : W3.cell? ⟨bs, 2, none⟩ = some (.int .i64 tt) := BS3.cell 2; clear BS3)
  refine HR3.out.mono ?_
  rintro e W4 (⟨rfl, hJ4, hk4⟩ | ⟨rfl, hJx4⟩)
  · have HS4 := Lib.hid ((HS2.out.below HB3.out).kp HK.out hk4)
    have HSZ4 := Lib.hid (Nat.le_trans (Nat.le_trans HSZ2.out HB3.out.size) hk4.1)
    gi_wp2
    gi_roundg k1
    case rel => exact ⟨k + 1, _, (by go_num), ⟨b21_⟩, ⟨(by rw [HO.out, if_pos HIST.out, List.map_append, HP.out]; rfl)⟩, ⟨hJ4⟩, ⟨HS4.out, HSZ4.out⟩⟩
    case measure => omega
  gi_wp2
  refine bodyPost_ret (results_none rfl _ _ _) rfl ?_
  refine ⟨⟨_, rfl⟩, .inr ⟨_, ?_, hJx4⟩⟩
  rw [List.map_append, HP.out]
  have h1 := HO.out
  rw [if_pos HIST.out] at h1
  have h2 := stepsTo_prefix den fr but am (k + 1) am.length (by omega)
  rw [h1] at h2
  exact h2
end Go.Proofs.Ytcgdbjojjpoegaa.P

namespace Go.Proofs.Ytcgdbjojjpoegaa.P
open Go.RowKit Go.Shelf Go.Proofs.YtcgdbjojjpoegaaW.PrintWords Go.Proofs.YtcgdbjojjpoegaaW.PrintLast Go.Proofs.YtcgdbjojjpoegaaW.PrintMore Go.Proofs.YtcgdbjojjpoegaaM Go.Proofs.YtcgdbjojjpoegaaR
set_option linter.unusedVariables false
set_option linter.unusedSimpArgs false

def encI (v : Int) : Value := .int .i64 v
theorem keyI : KeyOK Try.prog 3 encI where
  chk := fun e k w => by kernel_rfl
  eq := fun a b w => by
    have h : (Op.equal 3 (encI a) (encI b)).run Try.prog w = .ok (a == b) w := by
      unfold encI Op.equal Op.maxDepth
      go_simp
    rw [h]
    congr 1
  bits := fun a => by simp [encI, Instr.sameBits]
  und := ⟨_, Try.underlying3, .inr (fun a b => by simp [encI, Instr.sameNow]; rfl)⟩
/-- '==' of two steps -/
theorem eq117 (a b : S117) (w : World) : (Op.equal 117 (enc117 a) (enc117 b)).run Try.prog w = .ok (decide (a = b)) w := by
  have h : (Op.equal 117 (enc117 a) (enc117 b)).run Try.prog w = .ok ((a.f0 == b.f0) && ((a.f1 == b.f1) && (a.f2 == b.f2))) w := by
    unfold enc117 Op.equal Op.maxDepth
    refine eqA_of Try.underlying117 (by kernel_rfl) ?_
    exact eqf_cons (by rfl) (by go_simp; rfl) (by go_simp; rfl) (by go_simp) (eqf_cons (by rfl) (by go_simp; rfl) (by go_simp; rfl) (by go_simp) (eqf_last (by rfl) (by go_simp; rfl) (by go_simp; rfl) (by go_simp)))
  rw [h]
  clear h
  refine congrArg (fun q => Result.ok q w) ?_
  rcases a with ⟨a0, a1, a2⟩
  rcases b with ⟨b0, b1, b2⟩
  rw [Bool.eq_iff_iff]
  simp
section
variable {W W' : World} {B base : Nat} {den : Int} {vc : Value} {bA cA : Nat} {am : List Am} {seen : List Int}
set_option maxHeartbeats 400000 in
set_option maxRecDepth 100000 in
theorem steps_calls (h : Bk W B base den vc bA cA am seen) (from_ but : Int) : Calls Try.prog 104 #[.pointer (some ⟨B, 0, none⟩), .int .i64 from_, .int .i64 but] W fun e w' =>
    e = .returned (.func (.func 111) #[] #[.pointer (some ⟨W.heap.size, 0, none⟩), .pointer (some ⟨W.heap.size + 1, 0, none⟩), .pointer (some ⟨W.heap.size + 2, 0, none⟩), .pointer (some ⟨W.heap.size + 3, 0, none⟩)]) ∧
    StS w' B base den vc bA cA am W.heap.size (W.heap.size + 1) (W.heap.size + 2) (W.heap.size + 3) from_ but ∧ Below W.heap.size W w' ∧ w'.heap.size = W.heap.size + 4 := by
  have HF := Lib.hid (show StS ((((W.alloc (.cells #[.pointer (some ⟨B, 0, none⟩)] 90)).alloc (.cells #[.int .i64 from_] 3)).alloc (.cells #[.int .i64 but] 3)).alloc (.cells #[.func (.func 69) #[.pointer (some ⟨B, 0, none⟩)] #[]] 100)) B base den vc bA cA am W.heap.size (W.heap.size + 1) (W.heap.size + 2) (W.heap.size + 3) from_ but ∧ Below W.heap.size W ((((W.alloc (.cells #[.pointer (some ⟨B, 0, none⟩)] 90)).alloc (.cells #[.int .i64 from_] 3)).alloc (.cells #[.int .i64 but] 3)).alloc (.cells #[.func (.func 69) #[.pointer (some ⟨B, 0, none⟩)] #[]] 100)) from by
    have hb : Below W.heap.size W ((((W.alloc (.cells #[.pointer (some ⟨B, 0, none⟩)] 90)).alloc (.cells #[.int .i64 from_] 3)).alloc (.cells #[.int .i64 but] 3)).alloc (.cells #[.func (.func 69) #[.pointer (some ⟨B, 0, none⟩)] #[]] 100)) :=
      ((((Below.refl _ W).alloc (Nat.le_refl _) _).alloc (by simp) _).alloc (by simp; omega) _).alloc (by simp; omega) _
    have b1 := Blk.new W #[.pointer (some ⟨B, 0, none⟩)] 90
    have b2 := Blk.new (W.alloc (.cells #[.pointer (some ⟨B, 0, none⟩)] 90)) #[.int .i64 from_] 3
    have b3 := Blk.new ((W.alloc (.cells #[.pointer (some ⟨B, 0, none⟩)] 90)).alloc (.cells #[.int .i64 from_] 3)) #[.int .i64 but] 3
    have b4 := Blk.new (((W.alloc (.cells #[.pointer (some ⟨B, 0, none⟩)] 90)).alloc (.cells #[.int .i64 from_] 3)).alloc (.cells #[.int .i64 but] 3)) #[.func (.func 69) #[.pointer (some ⟨B, 0, none⟩)] #[]] 100
    simp only [World.size_alloc, Nat.add_assoc, Nat.reduceAdd] at b2 b3 b4
    exact ⟨⟨((b1.alloc _).alloc _).alloc _, (b2.alloc _).alloc _, b3.alloc _, b4, seen, h.below hb⟩, hb⟩)
  clear h
  go_enter Try.func104, Try.ntmps104
  go_wp2
  go_ret
  refine ⟨(by simp [Nat.add_assoc]), ?_, ?_, (by simp)⟩
  · simpa [Nat.add_assoc] using HF.out.1
  simpa [Nat.add_assoc] using HF.out.2
end
/-- append of a step to steps (a full slice), into a row of its own. -/
theorem m117_any {W : World} {base base' : Nat} {ok ok' : Nat → Prop} (p : S117) (cs : List Value) (h : k117.M W base ok p cs) {W' : World} : k117.M W' base' ok' p cs := by
  obtain rfl := k117_openM h
  exact k117_mkM _ _ _ _
theorem grow117 {W : World} {base : Nat} {v : Value} {xs : List S117} (h : Kd.R k117 117 W base (fun _ => True) v xs) (hl : xs.length < 1000000) (x : S117) :
    ∃ A c, v = .slice A xs.length c ∧ xs.length ≤ c ∧ ∃ A' c' w', (∀ ty, (Builtin.append_ #[115, 115] ty #[.slice A xs.length xs.length, .slice (some ⟨W.heap.size, 0, none⟩) 1 1]).run Try.prog (W.alloc (.cells #[.int .i64 x.f0, .int .i64 x.f1, .int .i64 x.f2] 117)) = .ok (.slice A' (xs.length + 1) c') w') ∧
      Kd.R k117 117 w' W.heap.size (fun _ => True) (.slice A' (xs.length + 1) c') (xs ++ [x]) ∧ W.grownBy w' none := by
  obtain ⟨ti, hi, hz, hs, hby⟩ := info_parts info117
  have hmx : maxLen = 9223372036854775807 := rfl
  have hga : W.grownBy (W.alloc (.cells #[.int .i64 x.f0, .int .i64 x.f1, .int .i64 x.f2] 117)) none := World.grownBy_alloc _ _ _
  have hnew : ∀ j u, [Value.int .i64 x.f0, Value.int .i64 x.f1, Value.int .i64 x.f2][j]? = some u → (W.alloc (.cells #[.int .i64 x.f0, .int .i64 x.f1, .int .i64 x.f2] 117)).cell? ((⟨W.heap.size, 0, none⟩ : Addr).add j) = some u := by
    intro j u hu
    rw [Addr.add_lit, Nat.zero_add, blk_cell (blk_new W _)]
    rw [← Array.getElem?_toList]
    exact hu
  obtain ⟨h0, inner, ho, hrep⟩ := h
  have fin : ∀ v' w', w'.ownsRow (W.alloc (.cells #[.int .i64 x.f0, .int .i64 x.f1, .int .i64 x.f2] 117)).heap.size 117 3 v' (xs.length + 1) (inner ++ [.int .i64 x.f0, .int .i64 x.f1, .int .i64 x.f2]) → ∃ A' c', v' = .slice A' (xs.length + 1) c' ∧ Kd.R k117 117 w' W.heap.size (fun _ => True) v' (xs ++ [x]) := by
    intro v' w' ho'
    obtain ⟨A', c', e, _⟩ := ho'.form (by omega)
    refine ⟨_, _, e, fun _ _ => trivial, inner ++ [.int .i64 x.f0, .int .i64 x.f1, .int .i64 x.f2], ?_, ?_⟩
    · rw [List.length_append]
      exact own_weaken ho' (by simp)
    · have h2 : Reps (k117.M w' W.heap.size fun k => True ∧ some k ≠ v'.ownBlock) k117.sz xs inner := ⟨hrep.1, fun j p hp => m117_any p _ (hrep.2 j p hp)⟩
      exact h2.snoc (k117_mkM _ _ _ _) rfl
  rcases ho.2 with ⟨hv, hn0⟩ | ⟨g, cap, cur, hv, hg, hh, hle, hcm, hsz, ht⟩
  · have hx0 : xs = [] := List.length_eq_zero_iff.1 (by first | exact hn0 | exact hn0.1)
    subst hx0
    have hin : inner = [] := List.length_eq_zero_iff.1 (by have := ho.1; simpa using this)
    subst hin
    subst hv
    refine ⟨none, 0, rfl, Nat.le_refl _, ?_⟩
    obtain ⟨v', w', h1, h2, h3, _⟩ := run_append_own (P := Try.prog) (w := W.alloc (.cells #[.int .i64 x.f0, .int .i64 x.f1, .int .i64 x.f2] 117)) (W.alloc (.cells #[.int .i64 x.f0, .int .i64 x.f1, .int .i64 x.f2] 117)).heap.size 115 115 117 ti _ 3 24 Try.underlying115 hi hz hs hby rfl (by decide) (.slice none 0 0) 0 [] (own_nil _ _ _ _) ⟨W.heap.size, 0, none⟩ 1 1 [.int .i64 x.f0, .int .i64 x.f1, .int .i64 x.f2] rfl hnew (by simp [Value.oneCell']) (by omega) (by omega) (Nat.le_refl _)
    obtain ⟨A', c', rfl, hR⟩ := fin v' w' h2
    exact ⟨A', c', w', fun ty => h1, hR, hga.trans h3⟩
  · subst hv
    refine ⟨some ⟨g, 0, none⟩, cap, rfl, hle, ?_⟩
    have hh1 := blk_grown hh hga (by simp)
    obtain ⟨v', w', h1, h2, h3⟩ := run_append_arg_grows (P := Try.prog) (W.alloc (.cells #[.int .i64 x.f0, .int .i64 x.f1, .int .i64 x.f2] 117)) 115 115 117 ti _ 3 24 Try.underlying115 hi hz hs hby rfl (by decide) ⟨g, 0, none⟩ xs.length xs.length inner ho.1
      (fun j u hu => by
        have hj : j < inner.length := (List.getElem?_eq_some_iff.1 hu).1
        rw [Addr.add_lit, Nat.zero_add, blk_cell hh1, ← Array.getElem?_toList]
        rw [← ht, List.getElem?_take_of_lt (by rw [← ho.1]; exact hj)] at hu
        exact hu) ⟨W.heap.size, 0, none⟩ 1 1 [.int .i64 x.f0, .int .i64 x.f1, .int .i64 x.f2] rfl hnew (by omega) (by omega) (by omega)
    obtain ⟨A', c', rfl, hR⟩ := fin v' w' h2
    exact ⟨A', c', w', fun ty => h1, hR, hga.trans h3⟩
/-! ### The way round, as a plain function -/
structure RSt where
  seen : List Int
  by_ : Int → Option S117
  wait : List Int
/-- one step of the search; true: the goal is found -/
def bodyR (goal : Int) (s : RSt × Bool) (x : S117) : RSt × Bool :=
  if s.2 = true then s else if s.1.seen.getD x.f2.toNat 0 = 1 then s else
    if x.f2 = goal then (⟨s.1.seen.set x.f2.toNat 1, fun k => if k = x.f2 then some x else s.1.by_ k, s.1.wait⟩, true)
    else (⟨s.1.seen.set x.f2.toNat 1, fun k => if k = x.f2 then some x else s.1.by_ k, s.1.wait ++ [x.f2]⟩, false)
def lastI (l : List Int) : Int := l.getD (l.length - 1) 0
def turnR (den : Int) (am : List Am) (i goal : Int) (s : RSt) : RSt × Bool :=
  (stepsTo den (lastI s.wait) i am am.length).foldl (bodyR goal) (⟨s.seen, s.by_, s.wait.take (s.wait.length - 1)⟩, false)
def searchR (den : Int) (am : List Am) (i goal : Int) : Nat → RSt → Option RSt
  | 0, s => if s.wait = [] then some s else none
  | k + 1, s => if s.wait = [] then some s else if (turnR den am i goal s).2 = true then some (turnR den am i goal s).1 else searchR den am i goal k (turnR den am i goal s).1
def backR (home : Int) : Nat → (Int → Option S117) → Int → List S117 → Option (List S117)
  | 0, by_, at_, out => if at_ = home then some out else none
  | k + 1, by_, at_, out => if at_ = home then some out else
      if (by_ at_).getD z117 = z117 then some [] else backR home k (fun q => if q = at_ then none else by_ q) ((by_ at_).getD z117).f1 (out ++ [(by_ at_).getD z117])
def startR (home : Int) : RSt := ⟨(List.replicate 14 0).set home.toNat 1, fun _ => none, [home]⟩
/-- the way round from the end of an amount to its beginning -/
def roundR (den : Int) (am : List Am) (i : Nat) : Option (List S117) :=
  (searchR den am i (amAt am i).fr 20 (startR (amAt am i).tt)).bind fun s => backR (amAt am i).tt 20 s.by_ (amAt am i).fr []
theorem foldl_found (goal : Int) (s : RSt) : ∀ l : List S117, l.foldl (bodyR goal) (s, true) = (s, true)
  | [] => rfl
  | x :: l => by
    rw [List.foldl_cons]
    have : bodyR goal (s, true) x = (s, true) := by simp [bodyR]
    rw [this]
    exact foldl_found goal s l
theorem foldl_prefix {goal : Int} {s s1 : RSt} {p l : List S117} (h : p <+: l) (hf : p.foldl (bodyR goal) (s, false) = (s1, true)) : l.foldl (bodyR goal) (s, false) = (s1, true) := by
  obtain ⟨q, rfl⟩ := h
  rw [List.foldl_append, hf]
  exact foldl_found goal s1 q
theorem bodyR_len {goal : Int} {s : RSt × Bool} {x : S117} : (bodyR goal s x).1.seen.length = s.1.seen.length := by
  unfold bodyR
  split
  · rfl
  split
  · rfl
  split <;> simp
end Go.Proofs.Ytcgdbjojjpoegaa.P

namespace Go.Proofs.Ytcgdbjojjpoegaa.P
open Go.RowKit Go.Shelf Go.Proofs.YtcgdbjojjpoegaaW.PrintWords Go.Proofs.YtcgdbjojjpoegaaW.PrintLast Go.Proofs.YtcgdbjojjpoegaaW.PrintMore Go.Proofs.YtcgdbjojjpoegaaM Go.Proofs.YtcgdbjojjpoegaaR
set_option linter.unusedVariables false
set_option linter.unusedSimpArgs false

theorem cut_full_115 (A : Option Addr) (n cap : Nat) (h2 : n ≤ cap) (W : World) :
    (Instr.slice 115 (.slice A n cap) none (some (.int .i64 (n : Int))) (some (.int .i64 (n : Int)))).run Try.prog W = .ok (.slice A n n) W := by
  obtain ⟨ti, hi, _, hs, _⟩ := info_parts info117
  have hel : Try.prog.elem 115 = 117 := by simp [Program.elem, Try.underlying115]
  have hu : Try.prog.underlying 115 = some (.slice (Try.prog.elem 115)) := by rw [hel]; exact Try.underlying115
  have ha : (A.map fun x => x.add 0) = A := by cases A <;> simp [Addr.add]
  rw [run_slice_hm W 115 A n cap hu .i64 .i64 n n (by omega) (by omega) (by omega), hel]
  simp [sizeOf, typeInfo, hi, sliced, Result.andThen, ha]
section
variable {W W' : World} {B base : Nat} {den : Int} {vc : Value} {bA cA : Nat} {am : List Am} {seen : List Int}
theorem bookCells_seen (j : Nat) (x : Int) (hj : j < seen.length) (vA : Value) : (bookCells den vc vA seen).setIfInBounds (3 + j) (.int .i64 x) = bookCells den vc vA (seen.set j x) := by
  unfold bookCells
  rw [List.setIfInBounds_toArray, List.set_append_right _ _ (by simp)]
  simp
theorem Bk.mark (h : Bk W B base den vc bA cA am seen) (j : Nat) (hj : j < 14) (x : Int) : Bk (W.setCell ⟨B, 3 + j, none⟩ (.int .i64 x)) B base den vc bA cA am (seen.set j x) := by
  have hl := h.at_.len
  refine ⟨⟨?_, ?_, (by simpa using hl)⟩, h.lt⟩
  · have := blk_set h.at_.blk (3 + j) (.int .i64 x)
    rwa [bookCells_seen j x (by omega)] at this
  exact own_far h.at_.own (by have := h.base_le; have := h.lt; show bA ≠ B; omega) _
theorem Bk.cseen (h : Bk W B base den vc bA cA am seen) (j : Nat) (hj : j < 14) : W.cell? ⟨B, 3 + j, none⟩ = some (.int .i64 (seen.getD j 0)) := by
  have hl := h.at_.len
  rw [blk_cell h.at_.blk (3 + j)]
  unfold bookCells
  have e : ∀ (a b d : Value) (l : List Value), (a :: b :: d :: l)[3 + j]? = l[j]? := fun a b d l => by
    rw [show 3 + j = j + 1 + 1 + 1 by omega]
    rfl
  rw [List.getElem?_toArray, List.cons_append, List.cons_append, List.cons_append, List.nil_append, e]
  simp [List.getD_eq_getElem?_getD, show j < seen.length by omega]
theorem Bk.kept {row : Option Nat} (h : Bk W B base den vc bA cA am seen) (hg : W.grownBy W' row) (h1 : some B ≠ row) (h2 : some bA ≠ row) : Bk W' B base den vc bA cA am seen :=
  ⟨⟨(hg.block B h.at_.lt h1).trans h.at_.blk, own_move h.at_.own (fun q hq => by
    have : q = bA := by simpa [Value.ownBlock] using hq.symm
    subst this
    exact hg.block q h.base_le.2 h2), h.at_.len⟩, h.lt⟩
end
theorem info3r : (Try.prog.info? 3).map (fun i => (i.zero, i.size, i.bytes)) = some (some (.int .i64 0), 1, 8) := by kernel_rfl
/-- Between the rounds of the search. -/
structure RI (w W : World) (B base : Nat) (den : Int) (vc : Value) (bA cA : Nat) (am : List Am) (goal : Int) (L c : Nat) (s : RSt) : Prop where
  x : Blk W w.heap.size 90 #[.pointer (some ⟨B, 0, none⟩)]
  g : Blk W (w.heap.size + 1) 3 #[.int .i64 goal]
  bk : Bk W B base den vc bA cA am s.seen
  mp : ∃ N, MapAt W encI (w.heap.size + 2) N (fun k => (s.by_ k).map enc117)
  mb : Blk W (w.heap.size + 3) 137 #[.map (some (w.heap.size + 2))]
  wb : Blk W (w.heap.size + 5) 136 #[.slice (some ⟨L, 0, none⟩) s.wait.length c]
  row : RowC W L 3 c s.wait
  lo : L = w.heap.size + 4 ∨ w.heap.size + 6 ≤ L
  fr : w.grownBy W (some B)
  sz : w.heap.size + 6 ≤ W.heap.size
  lt : B < bA ∧ bA < w.heap.size
section
variable {w W W' : World} {B base : Nat} {den : Int} {vc : Value} {bA cA : Nat} {am : List Am} {goal : Int} {L c : Nat} {s : RSt}
theorem gmore {w W W' : World} {B : Nat} {row : Option Nat} (h : w.grownBy W (some B)) (hg : W.grownBy W' row) (hr : ∀ r, row = some r → r = B ∨ w.heap.size ≤ r) : w.grownBy W' (some B) :=
  ⟨hg.os.trans h.os, hg.tape.trans h.tape, hg.output.trans h.output, Nat.le_trans h.size hg.size, fun k hk hne => (hg.block k (Nat.lt_of_lt_of_le hk h.size) (fun e => by
    rcases hr k e.symm with h3 | h3
    · exact hne (by rw [h3])
    · omega)).trans (h.block k hk hne)⟩
theorem RI.kept {row : Option Nat} (h : RI w W B base den vc bA cA am goal L c s) (hg : W.grownBy W' row) (hrow : ∀ r, row = some r → w.heap.size + 6 ≤ r ∧ r ≠ L) : RI w W' B base den vc bA cA am goal L c s := by
  obtain ⟨N, hN⟩ := h.mp
  have hlt := h.lt
  have ne : ∀ k, k < w.heap.size + 6 → some k ≠ row := fun k h1 e => by have := hrow k e.symm; omega
  exact ⟨h.x.kept hg (ne _ (by omega)), h.g.kept hg (ne _ (by omega)), h.bk.kept hg (ne _ (by omega)) (ne _ (by omega)), ⟨N, hN.move (hg.block _ hN.lt (ne _ (by omega)))⟩, h.mb.kept hg (ne _ (by omega)), h.wb.kept hg (ne _ (by omega)),
    h.row.kept hg (fun e => (hrow _ e.symm).2 rfl), h.lo, gmore h.fr hg (fun r e => .inr (by have := (hrow r e).1; omega)), Nat.le_trans h.sz hg.size, hlt⟩
theorem RI.below (h : RI w W B base den vc bA cA am goal L c s) (hb : Below W.heap.size W W') : RI w W' B base den vc bA cA am goal L c s :=
  h.kept (grown_of_below hb none) (fun r e => by cases e)
theorem RI.alloc (h : RI w W B base den vc bA cA am goal L c s) (o : Obj) : RI w (W.alloc o) B base den vc bA cA am goal L c s :=
  h.kept (World.grownBy_alloc W o none) (fun r e => by cases e)
/-- a place is marked -/
theorem RI.mark (h : RI w W B base den vc bA cA am goal L c s) (j : Nat) (hj : j < 14) (x : Int) : RI w (W.setCell ⟨B, 3 + j, none⟩ (.int .i64 x)) B base den vc bA cA am goal L c ⟨s.seen.set j x, s.by_, s.wait⟩ := by
  have hg := grown_set W B (3 + j) (.int .i64 x)
  obtain ⟨N, hN⟩ := h.mp
  have hlt := h.lt
  have hlo := h.lo
  exact ⟨h.x.kept hg (by simp; omega), h.g.kept hg (by simp; omega), h.bk.mark j hj x, ⟨N, hN.move (hg.block _ hN.lt (by simp; omega))⟩, h.mb.kept hg (by simp; omega), h.wb.kept hg (by simp; omega),
    h.row.kept hg (by simp; omega), h.lo, gmore h.fr hg (fun r e => .inl (by injection e with e; exact e.symm)), Nat.le_trans h.sz hg.size, hlt⟩
/-- the map has turned -/
theorem RI.mapped {N : Nat} {f : Int → Option Value} {f2 : Int → Option S117} (h : RI w W B base den vc bA cA am goal L c s) (hg : W.grownBy W' (some (w.heap.size + 2))) (hm : MapAt W' encI (w.heap.size + 2) N f) (hf : ∀ k, f k = (f2 k).map enc117) :
    RI w W' B base den vc bA cA am goal L c ⟨s.seen, f2, s.wait⟩ := by
  have hlt := h.lt
  have hlo := h.lo
  exact ⟨h.x.kept hg (by simp), h.g.kept hg (by simp), h.bk.kept hg (by simp; omega) (by simp; omega), ⟨N, (funext hf : f = fun k => (f2 k).map enc117) ▸ hm⟩, h.mb.kept hg (by simp), h.wb.kept hg (by simp),
    h.row.kept hg (by simp; omega), h.lo, gmore h.fr hg (fun r e => .inr (by injection e with e; omega)), Nat.le_trans h.sz hg.size, hlt⟩
/-- the last one that waits is taken -/
theorem RI.pop (h : RI w W B base den vc bA cA am goal L c s) : RI w (W.setCell ⟨w.heap.size + 5, 0, none⟩ (.slice (some ⟨L, 0, none⟩) (s.wait.length - 1) c)) B base den vc bA cA am goal L c ⟨s.seen, s.by_, s.wait.take (s.wait.length - 1)⟩ := by
  have hg := grown_set W (w.heap.size + 5) 0 (.slice (some ⟨L, 0, none⟩) (s.wait.length - 1) c)
  obtain ⟨N, hN⟩ := h.mp
  have hlt := h.lt
  have hlo := h.lo
  refine ⟨h.x.kept hg (by simp), h.g.kept hg (by simp), h.bk.kept hg (by simp; omega) (by simp; omega), ⟨N, hN.move (hg.block _ hN.lt (by simp))⟩, h.mb.kept hg (by simp), ?_,
    (h.row.take _).kept hg (by simp; omega), h.lo, gmore h.fr hg (fun r e => .inr (by injection e with e; omega)), Nat.le_trans h.sz hg.size, hlt⟩
  have := h.wb.set 0 (.slice (some ⟨L, 0, none⟩) (s.wait.length - 1) c)
  simpa using this
/-- one more waits -/
theorem RI.push (h : RI w W B base den vc bA cA am goal L c s) (hl : s.wait.length ≤ 1000000) (x : Int) :
    ∃ L' c' w', (∀ ty, (Builtin.append_ #[136, 136] ty #[.slice (some ⟨L, 0, none⟩) s.wait.length c, .slice (some ⟨W.heap.size, 0, none⟩) 1 1]).run Try.prog (W.alloc (.cells #[.int .i64 x] 3)) = .ok (.slice (some ⟨L', 0, none⟩) (s.wait.length + 1) c') w') ∧
      Blk w' (w.heap.size + 5) 136 #[.slice (some ⟨L, 0, none⟩) s.wait.length c] ∧ KeepsOthers W w' ∧ (W.alloc (.cells #[.int .i64 x] 3)).grownBy w' (some L) ∧
      RI w (w'.setCell ⟨w.heap.size + 5, 0, none⟩ (.slice (some ⟨L', 0, none⟩) (s.wait.length + 1) c')) B base den vc bA cA am goal L' c' ⟨s.seen, s.by_, s.wait ++ [x]⟩ ∧ (L' = L ∨ W.heap.size ≤ L') := by
  obtain ⟨N, hN⟩ := h.mp
  have hlt := h.lt
  have hlo := h.lo
  have hsz := h.sz
  have hL := h.row.lt
  have h1 := h.alloc (.cells #[.int .i64 x] 3)
  obtain ⟨ti, hi, hz, hs, hby⟩ := info_parts info3r
  have hmx : maxLen = 9223372036854775807 := rfl
  have hu : Try.prog.underlying 136 = some (.slice 3) := Try.underlying136
  obtain ⟨v', w', ha, h2, h3, h4, h5⟩ := run_append_own_at (P := Try.prog) (w := W.alloc (.cells #[.int .i64 x] 3)) (w.heap.size + 4) 136 136 3 ti (.int .i64 0) 1 8 hu hi hz hs hby rfl (by decide) (.slice (some ⟨L, 0, none⟩) s.wait.length c) s.wait.length _ (h1.row.own (by omega)) ⟨W.heap.size, 0, none⟩ 1 1 [.int .i64 x] rfl (fun j u hu => by
    rw [Addr.add_lit, Nat.zero_add, blk_cell (blk_new W _), ← Array.getElem?_toList]
    exact hu) (by simp [Value.oneCell']) (by omega) (by omega) (by simp; omega)
  have h2' : w'.ownsRow (w.heap.size + 4) 3 1 v' (s.wait.length + 1) ((s.wait ++ [x]).map (Value.int .i64)) := by rw [List.map_append]; exact h2
  obtain ⟨L', c', rfl, hge, hxl, hrow⟩ := RowC.of_own h2' (by omega)
  have hwb := h1.wb.kept h3 (show some (w.heap.size + 5) ≠ some L by simp; omega)
  have hne : L' ≠ w.heap.size + 5 := fun e => by
    obtain ⟨cur, hb, _⟩ := hrow.ex
    subst e
    have := (show w'.heap[w.heap.size + 5]? = _ from hb).symm.trans hwb
    simp at this
  have hg5 := grown_set w' (w.heap.size + 5) 0 (.slice (some ⟨L', 0, none⟩) (s.wait.length + 1) c')
  have nb : ∀ k, k < w.heap.size + 4 → some k ≠ (Value.slice (some ⟨L, 0, none⟩) s.wait.length c).ownBlock := fun k hk e => by
    have : k = L := by simpa [Value.ownBlock] using e
    omega
  refine ⟨L', c', w', fun ty => ha, hwb, ?_, h3, ?_, ?_⟩
  · refine (KeepsOthers.alloc W _).trans (KeepsOthers.of_grownBy h3 fun j o ej hj => ?_)
    have : j = L := by simpa [Value.ownBlock] using ej.symm
    subst this
    obtain ⟨cur, hb, _⟩ := h1.row.ex
    rw [show (W.alloc (.cells #[.int .i64 x] 3)).heap[j]? = _ from hb] at hj; cases hj; rfl
  · have hN1 := hN.move (w' := W.alloc (.cells #[.int .i64 x] 3)) ((World.grownBy_alloc W _ none).block _ hN.lt (by simp))
    refine ⟨(h1.x.kept h3 (nb _ (by omega))).kept hg5 (by simp), (h1.g.kept h3 (nb _ (by omega))).kept hg5 (by simp), (h1.bk.kept h3 (nb _ (by omega)) (nb _ (by omega))).kept hg5 (by simp; omega) (by simp; omega),
      ⟨N, (hN1.move (h3.block _ hN1.lt (nb _ (by omega)))).move (hg5.block _ (by have := hN1.lt; have := h3.size; omega) (by simp))⟩, (h1.mb.kept h3 (nb _ (by omega))).kept hg5 (by simp), ?_,
      hrow.kept hg5 (by simpa using hne), by show L' = _ ∨ _; omega, gmore (gmore h1.fr h3 (fun r e => ?_)) hg5 (fun r e => .inr (by injection e with e; omega)), by have := h3.size; have := hg5.size; have := h1.sz; omega, hlt⟩
    · have := hwb.set 0 (.slice (some ⟨L', 0, none⟩) (s.wait.length + 1) c')
      simpa using this
    · have : r = L := by simpa [Value.ownBlock] using e.symm
      right; omega
  · rcases h5 with h5 | h5
    · left
      simpa [Value.ownBlock] using h5
    · right
      have : L' = W.heap.size + 1 := by simpa [Value.ownBlock] using h5
      omega
end
end Go.Proofs.Ytcgdbjojjpoegaa.P

namespace Go.Proofs.Ytcgdbjojjpoegaa.P
open Go.RowKit Go.Shelf Go.Proofs.YtcgdbjojjpoegaaW.PrintWords Go.Proofs.YtcgdbjojjpoegaaW.PrintLast Go.Proofs.YtcgdbjojjpoegaaW.PrintMore Go.Proofs.YtcgdbjojjpoegaaM Go.Proofs.YtcgdbjojjpoegaaR
set_option linter.unusedVariables false
set_option linter.unusedSimpArgs false

/-- a body that returns -/
def onRet (Q : Act → World → Prop) : Exit → Act → World → Prop
  | .normal, a, w | .ret, a, w => Q a w
  | _, _, _ => False
theorem onRet_ret (Q : Act → World → Prop) (a : Act) (w : World) : onRet Q .ret a w = Q a w := rfl
theorem onRet_noGoto {F : Fence} {n : Nat} {P : Program} {fn : Func} {R : Ending → World → Prop} {c : Code} {a : Act} {w : World} (h : c.wp P (onRet fun a w => LeavesInM F n P fn a.tmps R a.defers .returning w) a w) :
    c.wp P (Exit.noGoto (bodyPostM F n P fn R)) a w :=
  wp_mono h (fun e a w hq => by cases e <;> first | exact hq | exact hq.elim)
/-- the marks that loops over functions have left -/
def marksOf (Ds : List Nat) : List Deferred := Ds.map fun D => { target := .collected D, args := #[] }
def RD (lo : Nat) (W : World) (Ds : List Nat) : Prop := Ds.Nodup ∧ ∀ D ∈ Ds, lo ≤ D ∧ W.heap[D]? = some (.deferred (some []))
theorem RD.nil (lo : Nat) (W : World) : RD lo W [] := ⟨by simp, by simp⟩
theorem RD.kept {lo : Nat} {W W' : World} {Ds : List Nat} {row : Option Nat} (h : RD lo W Ds) (hg : W.grownBy W' row) (hr : ∀ r, row = some r → r < lo ∨ ∃ cs t f, W.heap[r]? = some (.cells cs t f)) : RD lo W' Ds :=
  ⟨h.1, fun D hD => ⟨(h.2 D hD).1, (hg.block D (Array.getElem?_eq_some_iff.1 (h.2 D hD).2).1 (fun e => by
    rcases hr D e.symm with h1 | ⟨cs, t, f, h1⟩
    · have := (h.2 D hD).1; omega
    · rw [(h.2 D hD).2] at h1; cases h1)).trans (h.2 D hD).2⟩⟩
theorem RD.below {lo : Nat} {W W' : World} {Ds : List Nat} (h : RD lo W Ds) (hb : Below W.heap.size W W') : RD lo W' Ds := h.kept (grown_of_below hb none) (fun r e => by cases e)
theorem RD.cons {lo D : Nat} {W : World} {Ds : List Nat} (h : RD lo W Ds) (hD : lo ≤ D) (hW : W.heap[D]? = some (.deferred (some []))) (hn : D ∉ Ds) : RD lo W (D :: Ds) :=
  ⟨List.nodup_cons.2 ⟨hn, h.1⟩, fun E hE => by
    rcases List.mem_cons.1 hE with rfl | hE
    · exact ⟨hD, hW⟩
    · exact h.2 E hE⟩
/-- the end of a function with marks: what it leaves is kept where marks are taken -/
theorem marks_leaves {fn : Func} {R : Ending → World → Prop} {lo : Nat} (tmps : Array Value) (v : Value) (I : World → Prop) (hres : ∀ W, (results fn tmps).run Try.prog W = .ok v W)
    (hI : ∀ W D, I W → lo ≤ D → W.heap[D]? = some (.deferred (some [])) → I (W.putObj D (.deferred none))) (hR : ∀ W, I W → R (.returned v) W) : ∀ (Ds : List Nat) (W : World), RD lo W Ds → I W →
    LeavesInM Fence.wide 4 Try.prog fn tmps R (marksOf Ds) .returning W
  | [], W, _, h => ⟨_, hres W, hR W h⟩
  | D :: Ds, W, hD, h => by
    have hD0 := hD.2 D (by simp)
    have hnd := hD.1
    rw [List.nodup_cons] at hnd
    refine ⟨(by simp), .inl ⟨D, _, rfl, run_takeDeferred hD0.2, marks_leaves tmps v I hres hI hR Ds _ ⟨hnd.2, fun E hE => ?_⟩ (hI W D h hD0.1 hD0.2)⟩⟩
    have hE0 := hD.2 E (by simp [hE])
    refine ⟨hE0.1, ((grownBy_putObj' W D (.deferred none)).block E (Array.getElem?_eq_some_iff.1 hE0.2).1 (fun e => ?_)).trans hE0.2⟩
    injection e with e
    exact hnd.1 (e ▸ hE)
def stC (s : S117) : Array Value := #[.int .i64 s.f0, .int .i64 s.f1, .int .i64 s.f2]
def updS (T : Array Value) (x : OutStep) (b : Nat) : Array Value := (T.setIfInBounds 60 (enc117' x.1)).setIfInBounds 10 (.pointer (some ⟨b, 0, none⟩))
theorem rangeSteps {g : Operand} {assign body : Code} {Q : Exit → Act → World → Prop} {a : Act} {w1 : World} {lb : Array Value} {K : Nat → Prop} {B : Nat} {den : Int} {vc vA : Value} {S Sp : List OutStep → Prop} {N : Nat}
    (hg : a.eval g = .func (.func 111) #[] lb) (hseq : SeqStopsK Fence.wide 3 Try.prog 111 lb encS (KpS K B den vc vA) S Sp N w1) (hKb : ∀ q, K q → q < w1.heap.size) (hB : B < w1.heap.size)
    (I : List OutStep → World → Prop) (Ix : Code → List OutStep → World → Prop) (hI : OwnFrom w1.heap.size I) (hIx : ∀ c, OwnFrom w1.heap.size (Ix c)) (h0 : I [] w1)
    (hassign : ∀ (l : Nat) (pre : List OutStep) (x : OutStep) (W : World) (K' : Act → World → Prop), I pre W → (∀ a' W', KeepsFrom w1.heap.size W W' → KpS K B den vc vA W W' → I pre W' → (∃ b, w1.heap.size ≤ b ∧ Blk W' b 117 (stC x.1) ∧ a' = { tmps := updS a.tmps x b, defers := [] }) → K' a' W') →
      assign.wpIn (Fence.wide.inRound l) 2 Try.prog (Exit.then K' (fun _ _ _ => False)) { tmps := a.tmps.setIfInBounds 60 (enc117' x.1), defers := [] } W)
    (hbody : ∀ (l : Nat) (pre : List OutStep) (x : OutStep) (b : Nat) (W : World), I pre W → pre.length < N → w1.heap.size ≤ b → Blk W b 117 (stC x.1) → body.wpIn (Fence.wide.inRound l) 2 Try.prog (ownPostG w1.heap.size (KpS K B den vc vA) I Ix (pre ++ [x]) W) { tmps := updS a.tmps x b, defers := [] } W)
    (hdone : ∀ (D : Nat) (xs : List OutStep) (W : World), w1.heap.size ≤ D → S xs → I xs W → W.heap[D]? = some (.deferred (some [])) → Q .normal { a with defers := { target := .collected D, args := #[] } :: a.defers } W)
    (hstop : ∀ (D : Nat) (c : Code) (pre : List OutStep) (W : World), w1.heap.size ≤ D → Sp pre → Ix c pre W → W.heap[D]? = some (.deferred (some [])) → c.wpIn Fence.wide 4 Try.prog Q { a with defers := { target := .collected D, args := #[] } :: a.defers } W) :
    (Code.rangeFunc g #[60] assign body).wpIn Fence.wide 4 Try.prog Q a w1 := by
  refine wpIn_rangeFunc_ownH (gf := 111) rfl (by decide) hg trivial (enters_of Try.func111 (by kernel_rfl) rfl) hseq KpS.trans ?_ (Below.refl _ _) (fun _ => rfl) I Ix hI hIx h0
    (fun x a' W => ∃ b, w1.heap.size ≤ b ∧ Blk W b 117 (stC x.1) ∧ a' = { tmps := updS a.tmps x b, defers := [] }) ?_ ?_ ?_ hdone hstop
  · intro W l o o' hl ho hc hw
    have hgb := grownBy_putObj' W l o'
    have hne : ∀ k, k < w1.heap.size → (W.putObj l o').heap[k]? = W.heap[k]? := fun k hk =>
      hgb.block k (by have := (Array.getElem?_eq_some_iff.1 ho).1; omega) (by simp; omega)
    exact ⟨hgb.size, fun k hk => hne k (hKb k hk), fun seen hs hb => ⟨seen, hs, (hne B hB).trans hb⟩⟩
  · rintro x a' _ X Y row ⟨b, h1, h2, h3⟩ hg hr
    refine ⟨b, h1, h2.kept hg (fun e => ?_), h3⟩
    obtain ⟨_, o, ho, hc⟩ := hr b e.symm
    rw [show X.heap[b]? = _ from h2] at ho; cases ho; cases hc
  · intro l pre x W K' hi hK'
    have e : (#[60].zip (encS x)).foldl (fun t (p, v) => t.setIfInBounds p v) a.tmps = a.tmps.setIfInBounds 60 (enc117' x.1) := by simp [encS]
    rw [e]
    exact hassign l pre x W K' hi hK'
  rintro l pre x a' W hl _ hi ⟨b, h1, h2, rfl⟩ hN
  exact hbody l pre x b W hi hN h1 h2
/-- what the rounds of the loop over steps hand on -/
def RJ (w : World) (B base : Nat) (den : Int) (vc : Value) (bA cA : Nat) (am : List Am) (goal : Int) (st : RSt) (f : Bool) (g1 n1 : Nat) (Ds : List Nat) (pre : List OutStep) (W : World) : Prop :=
  ∃ L c s, (pre.map (·.1)).foldl (bodyR goal) (st, false) = (s, f) ∧ RI w W B base den vc bA cA am goal L c s ∧ RD (w.heap.size + 6) W Ds ∧ n1 ≤ W.heap.size ∧ (L < g1 ∨ n1 ≤ L)
theorem RJ.own {w : World} {B base : Nat} {den : Int} {vc : Value} {bA cA : Nat} {am : List Am} {goal : Int} {st : RSt} {f : Bool} {g1 n1 : Nat} {Ds : List Nat} (h1 : w.heap.size + 6 ≤ n1) (h2 : ∀ D ∈ Ds, D < n1) : OwnFrom n1 (RJ w B base den vc bA cA am goal st f g1 n1 Ds) := by
  rintro pre X Y row ⟨L, c, s, hf, hI, hD, hs, hL⟩ hg hr
  refine ⟨L, c, s, hf, hI.kept hg (fun r e => ?_), ⟨hD.1, fun D hDm => ⟨(hD.2 D hDm).1, (hg.block D (Array.getElem?_eq_some_iff.1 (hD.2 D hDm).2).1 (fun e => ?_)).trans (hD.2 D hDm).2⟩⟩, Nat.le_trans hs hg.size, hL⟩
  · obtain ⟨h3, o, ho, hc⟩ := hr r e
    refine ⟨(by omega), fun e2 => ?_⟩
    subst e2
    obtain ⟨cur, hb, _⟩ := hI.row.ex
    rw [show X.heap[r]? = _ from hb] at ho; cases ho; cases hc
  have := (hr D e.symm).1
  have := h2 D hDm
  omega
theorem bodyR_seen {goal : Int} {s : RSt} {x : S117} (h : s.seen.getD x.f2.toNat 0 = 1) : bodyR goal (s, false) x = (s, false) := by
  unfold bodyR
  rw [if_neg (by simp), if_pos h]
theorem bodyR_new {goal : Int} {s : RSt} {x : S117} (h : ¬ s.seen.getD x.f2.toNat 0 = 1) : bodyR goal (s, false) x = if x.f2 = goal then (⟨s.seen.set x.f2.toNat 1, fun k => if k = x.f2 then some x else s.by_ k, s.wait⟩, true) else (⟨s.seen.set x.f2.toNat 1, fun k => if k = x.f2 then some x else s.by_ k, s.wait ++ [x.f2]⟩, false) := by
  unfold bodyR
  rw [if_neg (by simp), if_neg h]
theorem bookCells_set3 {den : Int} {vc vA : Value} {seen : List Int} (j : Nat) (x : Int) (hj : j < seen.length) : (bookCells den vc vA seen).setIfInBounds (3 + j) (.int .i64 x) = bookCells den vc vA (seen.set j x) := by
  unfold bookCells
  rw [List.setIfInBounds_toArray, List.set_append_right _ _ (by simp)]
  simp
theorem KpS.below {K : Nat → Prop} {B : Nat} {den : Int} {vc vA : Value} {W W' : World} (hK : ∀ q, K q → q < W.heap.size) (hB : B < W.heap.size) (hb : Below W.heap.size W W') : KpS K B den vc vA W W' :=
  ⟨hb.size, fun q hq => hb.block q (hK q hq), fun s hs h => ⟨s, hs, (hb.block B hB).trans h⟩⟩
theorem KpS.grown {K : Nat → Prop} {B : Nat} {den : Int} {vc vA : Value} {W W' : World} {row : Option Nat} (hK : ∀ q, K q → q < W.heap.size ∧ some q ≠ row) (hB : B < W.heap.size ∧ some B ≠ row) (hg : W.grownBy W' row) : KpS K B den vc vA W W' :=
  ⟨hg.size, fun q hq => hg.block q (hK q hq).1 (hK q hq).2, fun s hs h => ⟨s, hs, (hg.block B hB.1 hB.2).trans h⟩⟩
theorem KpS.mark {K : Nat → Prop} {B : Nat} {den : Int} {vc : Value} {bA n cA : Nat} {W : World} (hK : ∀ q, K q → q < W.heap.size ∧ q ≠ B) (j : Nat) (hj : j < 14) (x : Int) : KpS K B den vc (.slice (some ⟨bA, 0, none⟩) n cA) W (W.setCell ⟨B, 3 + j, none⟩ (.int .i64 x)) := by
  have hg := grown_set W B (3 + j) (.int .i64 x)
  refine ⟨hg.size, fun q hq => hg.block q (hK q hq).1 (by have := (hK q hq).2; simpa using this), fun s hs h => ⟨s.set j x, (by simpa using hs), ?_⟩⟩
  have := blk_set h (3 + j) (.int .i64 x)
  rwa [bookCells_set3 j x (by omega)] at this
/-- an operation of which it is known what it does, in a loop over a function -/
theorem append_runIn {F : Fence} {n : Nat} {P : Program} {ops : Array Oper} {rest : List Oper} {o : Oper} {a : Act} {Q : Exit → Act → World → Prop} {W : World} (hgd : o.guard = none) (s x : Operand) (t : TypeId)
    (hop : o.op = Op.call { callee := Callee.builtin Builtin.append, args := #[s, x], argTypes := #[t, t] }) (vs vx v' : Value) (w' : World) (hs : a.eval s = vs) (hx : a.eval x = vx)
    (hrun : ∀ ty, (Builtin.append_ #[t, t] ty #[vs, vx]).run P W = .ok v' w') (h : wpListIn F n P ops Q rest (a.put o.dst v') w') : wpListIn F n P ops Q (o :: rest) a W := by
  refine wpListIn_plain hgd fun K hK' => ?_
  unfold Oper.wpIn
  refine ⟨?_, ?_⟩
  · simp [Oper.about, hop, resolve, Target.leads, Sem.run_pure]
  rw [Oper.semAt_plain F _ _ (by rw [hop]; intro c hc'; cases hc')]
  simp [execOp, hop, resolve, invoke, builtin, hs, hx, hrun, Result.andThen]
  exact hK' _ _ h
end Go.Proofs.Ytcgdbjojjpoegaa.P

namespace Go.Proofs.Ytcgdbjojjpoegaa.P
open Go.RowKit Go.Shelf Go.Proofs.YtcgdbjojjpoegaaW.PrintWords Go.Proofs.YtcgdbjojjpoegaaW.PrintLast Go.Proofs.YtcgdbjojjpoegaaW.PrintMore Go.Proofs.YtcgdbjojjpoegaaM Go.Proofs.YtcgdbjojjpoegaaR
attribute [local go_sem] Oper.semAt_some
set_option linter.unusedVariables false
set_option linter.unusedSimpArgs false
theorem fold_wait (goal : Int) : ∀ (l : List S117) (s : RSt × Bool), (l.foldl (bodyR goal) s).1.wait.length ≤ s.1.wait.length + l.length
  | [], s => by simp
  | x :: l, s => by
    rw [List.foldl_cons]
    have h1 := fold_wait goal l (bodyR goal s x)
    have h2 : (bodyR goal s x).1.wait.length ≤ s.1.wait.length + 1 := by
      unfold bodyR
      split
      · omega
      · split
        · omega
        · split <;> simp
    simp only [List.length_cons]
    omega
theorem R117_kept {W W' : World} {base : Nat} {v : Value} {xs : List S117} {row : Option Nat} (h : Kd.R k117 117 W base (fun _ => True) v xs) (hg : W.grownBy W' row) (hr : ∀ r, row = some r → r < base ∨ ∃ o, W.heap[r]? = some o ∧ o.isCells = false) : Kd.R k117 117 W' base (fun _ => True) v xs := by
  obtain ⟨h0, inner, ho, hrep⟩ := h
  refine ⟨h0, inner, own_move ho (fun k hk => hg.block k (own_lt ho k hk) (fun e => ?_)), hrep.1, fun j p hp => m117_any p _ (hrep.2 j p hp)⟩
  rcases hr k e.symm with h1 | ⟨o, h1, h2⟩
  · have := own_base ho k hk; omega
  rcases ho.2 with ⟨rfl, _⟩ | ⟨g, cap, cur, rfl, _, hgb, _⟩
  · cases hk
  have : g = k := by simpa [Value.ownBlock] using hk
  subst this
  rw [hgb] at h1; cases h1; cases h2
theorem R117_form {W : World} {base : Nat} {v : Value} {xs : List S117} (h : Kd.R k117 117 W base (fun _ => True) v xs) : ∃ A c, v = .slice A xs.length c ∧ xs.length ≤ c := by
  obtain ⟨A, c, e, hle, _⟩ := Kd.R_reads h
  exact ⟨A, c, e, hle⟩
theorem guard117 : Try.prog.eqGuardType Try.prog.depth 117 = false := by kernel_rfl
set_option maxRecDepth 100000 in
/-- '==' of two steps. -/
theorem eql_117 {ops : Array Oper} {rest : List Oper} {o : Oper} {a : Act} {W : World} {Q : Exit → Act → World → Prop} (hgd : o.guard = none) (x y : Tmp) (ty : TypeId) (ho : o.op = .binOp .eql 117 (.tmp x) (.tmp y) ty) (p q : S117) (hx : a.eval (.tmp x) = enc117 p) (hy : a.eval (.tmp y) = enc117 q)
    (h : wpList Try.prog ops Q rest (a.put o.dst (.bool (decide (p = q)))) W) : wpList Try.prog ops Q (o :: rest) a W := by
  refine wpList_plain hgd fun K hK => ?_
  unfold Oper.wp execOp
  have he := eq117 p q W
  have hg := guard117
  generalize decide (p = q) = dd at *
  simp only [enc117] at he hx hy
  simp [ho, hx, hy, eqGuard, binOp, he, hg, Sem.run_bind, Result.andThen]
  exact hK _ _ h
def F1 (B n0 : Nat) (i home : Int) (Ds : List Nat) (f : Nat → Value) : Act := { tmps := #[.pointer (some ⟨B, 0, none⟩), .int .i64 i, .pointer (some ⟨n0, 0, none⟩), undef, .slice none 0 0, .int .i64 home, .pointer (some ⟨n0 + 1, 0, none⟩), .pointer (some ⟨n0 + 3, 0, none⟩), .pointer (some ⟨n0 + 5, 0, none⟩), f 9, f 10, undef, undef, undef, f 14, f 15, f 16, f 17, f 18, f 19, f 20, f 21, f 22, f 23, f 24, f 25, f 26, f 27, f 28, f 29, f 30, f 31, f 32, f 33, f 34, f 35, f 36, f 37, f 38, f 39, f 40, f 41, f 42, f 43, f 44, f 45, f 46, f 47, f 48, f 49, f 50, f 51, f 52, f 53, f 54, f 55, f 56, f 57, f 58, f 59, f 60, f 61, f 62, f 63, f 64, f 65, f 66, f 67, f 68, f 69, f 70, f 71, f 72, f 73, f 74, f 75, f 76, f 77, f 78, f 79, f 80, f 81, f 82, f 83, f 84, f 85, f 86, f 87, undef, undef, undef, undef, undef, undef, undef, undef, undef, undef, undef, undef, undef, undef, undef, undef, undef, undef, undef, undef, undef, undef, undef, undef], defers := marksOf Ds }
def F2 (B n0 : Nat) (i home : Int) (out : Value) (at_ : Int) (Ds : List Nat) (f : Nat → Value) : Act := { tmps := #[.pointer (some ⟨B, 0, none⟩), .int .i64 i, .pointer (some ⟨n0, 0, none⟩), undef, .slice none 0 0, .int .i64 home, .pointer (some ⟨n0 + 1, 0, none⟩), .pointer (some ⟨n0 + 3, 0, none⟩), .pointer (some ⟨n0 + 5, 0, none⟩), f 9, f 10, out, .int .i64 at_, f 13, f 14, f 15, f 16, f 17, f 18, f 19, f 20, f 21, f 22, f 23, f 24, f 25, f 26, f 27, f 28, f 29, f 30, f 31, f 32, f 33, f 34, f 35, f 36, f 37, f 38, f 39, f 40, f 41, f 42, f 43, f 44, f 45, f 46, f 47, f 48, f 49, f 50, f 51, f 52, f 53, f 54, f 55, f 56, f 57, f 58, f 59, f 60, f 61, f 62, f 63, f 64, f 65, f 66, f 67, f 68, f 69, f 70, f 71, f 72, f 73, f 74, f 75, f 76, f 77, f 78, f 79, f 80, f 81, f 82, f 83, f 84, f 85, f 86, f 87, f 88, f 89, f 90, f 91, f 92, f 93, f 94, f 95, f 96, f 97, f 98, f 99, f 100, f 101, f 102, f 103, f 104, f 105, f 106, f 107, f 108, f 109, f 110, f 111], defers := marksOf Ds }
def slotsOf (a : Act) (k : Nat) : Value := a.tmps.toList.getD k undef
theorem F1.intro {B n0 : Nat} {i home : Int} {Ds : List Nat} {a : Act} (h : a = F1 B n0 i home Ds (slotsOf a)) : ∃ f, a = F1 B n0 i home Ds f := ⟨_, h⟩
theorem F2.intro {B n0 : Nat} {i home : Int} {out : Value} {at_ : Int} {Ds : List Nat} {a : Act} (h : a = F2 B n0 i home out at_ Ds (slotsOf a)) : ∃ f, a = F2 B n0 i home out at_ Ds f := ⟨_, h⟩

def round87.T1 : Bool × List (List Nat × List Nat) := (true, [([], []), ([0], [0]), ([1], [1]), ([2], [2]), ([], []), ([3, 4], [3, 4]), ([5], [5]), ([6], [6]), ([], []), ([8], [8]), ([9], [9]), ([10], [10]), ([], []), ([11, 12], [11, 12]), ([13], [13]), ([14], [14]), ([], []), ([7, 0, 1, 2, 3, 4, 5, 6, 7, 16], [7]), ([16, 15, 17, 0, 1, 2, 3, 4, 5, 6, 7, 8, 9, 10, 11, 12, 13, 14, 15, 16, 17], [15, 16])])
def round87.B1 : List Nat := [0, 1, 3, 7, 0, 31, 63, 127, 0, 256, 768, 1792, 0, 7936, 16128, 32512, 0, 65791, 262143]
theorem round87.tab1 : rtab .any (opsOf Try.f87 1) = round87.T1 := by kernel_rfl
theorem round87.bits1 : waitsOk round87.T1.2 round87.B1 = true := by kernel_rfl
def round87.T23 : Bool × List (List Nat × List Nat) := (true, [([], []), ([], []), ([1], [1]), ([], []), ([3], [3]), ([0, 2, 4], [0, 2, 4]), ([], []), ([6], [6]), ([5, 7], [5, 7]), ([8, 8, 0, 1, 2, 3, 4, 5, 6, 7, 8], [0, 1, 3, 8])])
def round87.B23 : List Nat := [0, 0, 2, 0, 8, 31, 0, 64, 255, 511]
theorem round87.tab23 : rtab .any (opsOf Try.f87 23) = round87.T23 := by kernel_rfl
theorem round87.bits23 : waitsOk round87.T23.2 round87.B23 = true := by kernel_rfl
set_option maxHeartbeats 4000000 in
set_option maxRecDepth 100000 in
theorem round_calls (B base : Nat) (den : Int) (vc : Value) (bA cA : Nat) (am : List Am) (seen : List Int) (w : World) (h : Bk w B base den vc bA cA am seen) (i : Nat) (hi : i < am.length) (hok : AmOk am) (hd : den ≠ 0) (hn : am.length ≤ 100) (r : List S117) (hr : roundR den am i = some r) :
    Calls Try.prog 87 #[.pointer (some ⟨B, 0, none⟩), .int .i64 (i : Int)] w fun e w' => ∃ A' c' seen', e = .returned (.slice A' r.length c') ∧ Kd.R k117 117 w' w.heap.size (fun _ => True) (.slice A' r.length c') r ∧ Bk w' B base den vc bA cA am seen' ∧ w.grownBy w' (some B) := by
  have H0 := Aside0.mk h
  have HR := Aside0.mk hr
  have HOK := Aside0.mk hok
  have HBA := h.base_le
  have hBlt := h.at_.lt
  have hltB := h.lt
  have hAm := hok _ (List.getElem_mem hi)
  have hamt := amAt_nat am i hi
  obtain ⟨home, ehome⟩ : ∃ x, am[i].tt = x := ⟨_, rfl⟩
  obtain ⟨goal, egoal⟩ : ∃ x, am[i].fr = x := ⟨_, rfl⟩
  have hb1 : Below w.heap.size w (w.alloc (.cells #[.pointer (some ⟨B, 0, none⟩)] 90)) := box1 _ _
  have hk1 := h.below hb1
  have hx1 := Blk.new w #[.pointer (some ⟨B, 0, none⟩)] 90
  clear h hr hok
  refine callsIn_wide.1 (callsIn_of_wp_marks (F := Fence.wide) (n := 4) Try.func87 rfl trivial ?_ rfl)
  refine wpIn_wide.2 ?_
  simp only [Try.ntmps87, List.size_toArray, List.length_cons, List.length_nil, Nat.reduceAdd, Nat.reduceSub, Array.replicate_succ, Array.replicate_zero, List.push_toArray, List.append_toArray, List.nil_append, List.cons_append]
  go_upto_region 1 with (fail)
  obtain ⟨W1, e1⟩ : ∃ W1, w.alloc (.cells #[.pointer (some ⟨B, 0, none⟩)] 90) = W1 := ⟨_, rfl⟩
  have hsz1 : W1.heap.size = w.heap.size + 1 := by rw [← e1]; simp
  rw [e1] at hb1 hk1 hx1 ⊢
  clear e1
  obtain ⟨W2, e2⟩ : ∃ W2, W1.drew = W2 := ⟨_, rfl⟩
  have hb2 : Below W1.heap.size W1 W2 := by rw [← e2]; exact below_drew (Below.refl _ _)
  have hsz2 : W2.heap.size = w.heap.size + 1 := by rw [← e2]; exact hsz1
  have hk2 := hk1.below hb2
  have hx2 := hx1.below hb2 hx1.lt
  have hB2 := below_then hb1 hb1.size hb2
  clear hb1 hk1 hx1 hb2
  have cx : W2.cell? ⟨w.heap.size, 0, none⟩ = some (.pointer (some ⟨B, 0, none⟩)) := hx2.cell 0
  have c2 := hk2.at_.c2
  obtain ⟨d0, d1, d2⟩ := hk2.cell i hi
  have hle := hk2.len_le
  have hi2 : (i : Int) < (am.length : Int) := by omega
  have hlen : am.length ≤ 9223372036854775807 := by omega
  rw [ehome] at d1
  rw [egoal] at d0
  apply wp_scope_straight
  refine onRet_noGoto ?_
  apply wp_seq_k; intro _ _
  have ed := e2
  have hAl := below_alloc (Below.refl W2.heap.size W2) (.cells #[.int .i64 0] 3)
  refine sA_ 19 (fun w' => w'.cell? ⟨w.heap.size, 0, none⟩ = some (.pointer (some ⟨B, 0, none⟩)) ∧ w'.cell? ⟨B, 2, none⟩ = some (.slice (some ⟨bA, 0, none⟩) am.length cA) ∧ w'.cell? ⟨bA, i * 3, none⟩ = some (.int .i64 goal) ∧ w'.cell? ⟨bA, i * 3 + 1, none⟩ = some (.int .i64 home)) [18] round87.tab1 round87.bits1 (by rw [ed]; exact ⟨cx, c2, d0, d1⟩) (fun hHeld HT_ HW_ => ?_)
  rw [ed] at hHeld ⊢
  refine tF_ 0 (some 14) 19 1 ?_
  refine pA_ 1 (some 15) 19 3 ?_
  refine pA_ 2 (some 16) 19 7 ?_
  refine tF_ 3 (some 17) 19 15 ?_
  refine pA_ 4 (some 18) 19 31 ?_
  refine pA_ 5 (some 19) 19 63 ?_
  refine pA_ 6 (some 20) 19 127 ?_
  refine tF_ 7 (some 21) 19 255 ?_
  refine tF_ 8 (some 22) 19 511 ?_
  refine pA_ 9 (some 23) 19 1023 ?_
  refine pA_ 10 (some 24) 19 2047 ?_
  refine tF_ 11 (some 25) 19 4095 ?_
  refine pA_ 12 (some 26) 19 8191 ?_
  refine pA_ 13 (some 27) 19 16383 ?_
  refine pA_ 14 (some 28) 19 32767 ?_
  refine tF_ 15 (some 29) 19 65535 ?_
  refine oA_ 16 (some 6) 19 131071 (fun K hK => ?_)
  refine event_step (by rfl) (w1 := W2.alloc (.cells #[.int .i64 0] 3)) (v := .pointer (some ⟨W2.heap.size, 0, none⟩)) (by go_simp) ?_
  refine hK.out _ _ ⟨cell_in hAl cx, cell_in hAl c2, cell_in hAl d0, cell_in hAl d1⟩ (fun hHeld => ?_)
  clear hK K
  refine nA_ (some 6) ?_
  refine pA_ 17 (some 5) 19 262143 ?_
  refine oL_ 18 none 19 524287 (fun K hK => ?_)
  refine skip_ (w1 := W2.alloc (.cells #[.int .i64 goal] 3)) (by rfl) rfl ?_ ?_
  · go_simp
  refine hK.out _ _ ?_
  clear hK K
  refine dA_ ?_
  have hg3 := Blk.new W2 #[.int .i64 goal] 3
  have hb3 := box1 W2 (.cells #[.int .i64 goal] 3)
  obtain ⟨W3, e3⟩ : ∃ W3, W2.alloc (.cells #[.int .i64 goal] 3) = W3 := ⟨_, rfl⟩
  have hsz3 : W3.heap.size = w.heap.size + 2 := by rw [← e3]; simp [hsz2]
  rw [hsz2] at hg3 ⊢
  rw [e3] at hg3 hb3 ⊢
  have hk3 := hk2.below hb3
  have hx3 := hx2.below hb3 hx2.lt
  have hB3 := below_then hB2 hB2.size hb3
  clear hHeld HT_ HW_ cx c2 d0 d1 hAl ed e2 e3 hb3 hk2 hx2 hB2 hsz1 hsz2 hi2
  obtain ⟨W4, hclr, hk4, hx4, hg4, hf4, hsz4⟩ : ∃ W4, (∀ ty, (Builtin.clear_ #[136] ty #[.slice (some ⟨B, 3, none⟩) 14 14]).run Try.prog W3 = .ok (.tuple #[]) W4) ∧ Bk W4 B base den vc bA cA am (List.replicate 14 0) ∧
      Blk W4 w.heap.size 90 #[.pointer (some ⟨B, 0, none⟩)] ∧ Blk W4 (w.heap.size + 1) 3 #[.int .i64 goal] ∧ w.grownBy W4 (some B) ∧ W4.heap.size = w.heap.size + 2 := by
    refine ⟨_, fun ty => Lib.run_clear_slice (P := Try.prog) _ 136 3 ty (.int .i64 0) Try.underlying136 (fun w => by kernel_rfl) rfl rfl B 3 14 14 (by omega) (fun j hj => by rw [hk3.cseen j hj]; rfl) (fun j hj => hk3.at_.fz _), ?_⟩
    have key : ∀ (k : Nat) (W : World) (s : List Int) (v : Nat), v + k ≤ 14 → (∀ j, j < v → s.getD j 0 = 0) → Bk W B base den vc bA cA am s → Blk W w.heap.size 90 #[.pointer (some ⟨B, 0, none⟩)] → Blk W (w.heap.size + 1) 3 #[.int .i64 goal] → w.grownBy W (some B) → W.heap.size = w.heap.size + 2 →
        ∃ s', (∀ j, j < v + k → s'.getD j 0 = 0) ∧ Bk (W.setCells B (3 + v) (List.replicate k (.int .i64 0))) B base den vc bA cA am s' ∧ Blk (W.setCells B (3 + v) (List.replicate k (.int .i64 0))) w.heap.size 90 #[.pointer (some ⟨B, 0, none⟩)] ∧ Blk (W.setCells B (3 + v) (List.replicate k (.int .i64 0))) (w.heap.size + 1) 3 #[.int .i64 goal] ∧ w.grownBy (W.setCells B (3 + v) (List.replicate k (.int .i64 0))) (some B) ∧ (W.setCells B (3 + v) (List.replicate k (.int .i64 0))).heap.size = w.heap.size + 2 := by
      intro k
      induction k with
      | zero => exact fun W s v _ h0 h1 h2 h3 h4 h5 => ⟨s, h0, h1, h2, h3, h4, h5⟩
      | succ k ih =>
        intro W s v hv h0 h1 h2 h3 h4 h5
        have hg := grown_set W B (3 + v) (.int .i64 0)
        have hl := h1.at_.len
        have := ih (W.setCell ⟨B, 3 + v, none⟩ (.int .i64 0)) (s.set v 0) (v + 1) (by omega) (fun j hj => by
          by_cases e : j = v
          · subst e; rw [List.getD_eq_getElem?_getD, List.getElem?_set_self (by omega)]; rfl
          · have := h0 j (by omega); simpa [List.getElem?_set, Ne.symm e] using this) (h1.mark v (by omega) 0) (h2.kept hg (by simp; omega)) (h3.kept hg (by simp; omega)) (gmore h4 hg (fun r e => .inl (by injection e with e; exact e.symm))) (by rw [← h5]; simp)
        obtain ⟨s', h6⟩ := this
        refine ⟨s', ?_⟩
        rw [show v + (k + 1) = v + 1 + k by omega]
        exact h6
    obtain ⟨s', h0, h1, h2, h3, h4, h5⟩ := key 14 W3 seen 0 (by omega) (fun j hj => absurd hj (by omega)) hk3 hx3 hg3 (grown_of_below hB3 _) hsz3
    refine ⟨?_, h2, h3, h4, h5⟩
    have hl := h1.at_.len
    have : s' = List.replicate 14 0 := by
      apply List.ext_getElem
      · simp [hl]
      · intro j q1 q2
        have := h0 j (by omega)
        rw [List.getElem_replicate]
        simpa [q1] using this
    rw [← this]
    exact h1
  have cx : W3.cell? ⟨w.heap.size, 0, none⟩ = some (.pointer (some ⟨B, 0, none⟩)) := hx3.cell 0
  have cx4 : W4.cell? ⟨w.heap.size, 0, none⟩ = some (.pointer (some ⟨B, 0, none⟩)) := hx4.cell 0
  have cl3 := hk3.at_.lt
  obtain ⟨hh0, hh14⟩ : 0 ≤ home ∧ home < 14 := by rw [← ehome]; exact hAm.2
  have cs4 := hk4.cseen home.toNat (by omega)
  have cf4 := hk4.at_.fz (3 + home.toNat)
  have hmm := @run_makeMap Try.prog
  go_upto_region 4 with (fail)
  have hg5 := grown_set W4 B (3 + home.toNat) (.int .i64 1)
  have hk5 := Aside0.mk (hk4.mark home.toNat (by omega) 1)
  have hx5 := Aside0.mk (hx4.kept hg5 (by simp; omega))
  have hg5' := Aside0.mk (hg4.kept hg5 (by simp; omega))
  have hf5 := Aside0.mk (gmore hf4 hg5 (fun r e => .inl (by injection e with e; exact e.symm)))
  obtain ⟨W5, e5⟩ : ∃ W5, W4.setCell ⟨B, 3 + home.toNat, none⟩ (.int .i64 1) = W5 := ⟨_, rfl⟩
  have hsz5 : W5.heap.size = w.heap.size + 2 := by rw [← e5, ← hsz4]; simp
  rw [e5] at hk5 hx5 hg5' hf5 ⊢
  clear e5 hg5 hk4 hx4 hg4 hf4 hsz4 cx cx4 cs4 cf4 hclr hk3 hx3 hg3 hB3 hsz3 cl3
  go_upto_region 6 with (fail)
  simp only [Nat.add_assoc, Nat.reduceAdd]
  have hRI : RI w ((((W5.alloc (.map #[] 0)).alloc (.cells #[.map (some (w.heap.size + 2))] 137)).alloc (.cells #[.int .i64 home] 3)).alloc (.cells #[.slice (some ⟨w.heap.size + 4, 0, none⟩) 1 1] 136)) B base den vc bA cA am goal (w.heap.size + 4) 1 (startR home) := by
    have g1 := World.grownBy_alloc W5 (.map #[] 0) none
    have g2 := World.grownBy_alloc (W5.alloc (.map #[] 0)) (.cells #[.map (some (w.heap.size + 2))] 137) none
    have g3 := World.grownBy_alloc ((W5.alloc (.map #[] 0)).alloc (.cells #[.map (some (w.heap.size + 2))] 137)) (.cells #[.int .i64 home] 3) none
    have g4 := World.grownBy_alloc (((W5.alloc (.map #[] 0)).alloc (.cells #[.map (some (w.heap.size + 2))] 137)).alloc (.cells #[.int .i64 home] 3)) (.cells #[.slice (some ⟨w.heap.size + 4, 0, none⟩) 1 1] 136) none
    have g := ((g1.trans g2).trans g3).trans g4
    have hm := MapAt.made W5 encI
    have m1 := hm.move (g2.block _ hm.lt (by simp))
    have m2 := m1.move (g3.block _ m1.lt (by simp))
    have m3 := m2.move (g4.block _ m2.lt (by simp))
    have b1 := Blk.new (W5.alloc (.map #[] 0)) #[.map (some (w.heap.size + 2))] 137
    have r1 := row_lit ((W5.alloc (.map #[] 0)).alloc (.cells #[.map (some (w.heap.size + 2))] 137)) [home] 3 #[.int .i64 home] rfl (by simp)
    have b2 := Blk.new (((W5.alloc (.map #[] 0)).alloc (.cells #[.map (some (w.heap.size + 2))] 137)).alloc (.cells #[.int .i64 home] 3)) #[.slice (some ⟨w.heap.size + 4, 0, none⟩) 1 1] 136
    simp only [World.size_alloc, hsz5, Nat.add_assoc, Nat.reduceAdd] at m3 b1 r1 b2
    exact ⟨hx5.out.kept g (by simp), hg5'.out.kept g (by simp), hk5.out.kept g (by simp) (by simp), ⟨0, m3⟩, (b1.alloc _).alloc _, b2, r1.kept g4 (by simp), .inl rfl, gmore hf5.out g (fun r e => by cases e), (by simp [hsz5]), (by have := hk5.out.base_le; have := hk5.out.lt; exact ⟨(by omega), HBA.2⟩)⟩
  obtain ⟨W6, e6⟩ : ∃ W6, (((W5.alloc (.map #[] 0)).alloc (.cells #[.map (some (w.heap.size + 2))] 137)).alloc (.cells #[.int .i64 home] 3)).alloc (.cells #[.slice (some ⟨w.heap.size + 4, 0, none⟩) 1 1] 136) = W6 := ⟨_, rfl⟩
  rw [e6] at hRI ⊢
  have HRI := Aside0.mk hRI
  clear hRI e6 hk5 hx5 hg5' hf5 hsz5 hmm
  apply wp_label
  simp only [Exit.then]
  rename_i hKl
  refine hKl _ _ ?_
  clear hKl
  apply wp_seq_k; intro K0 hK0
  go_wp2_with fail
  obtain ⟨s2, hs2, hb2⟩ : ∃ s2, searchR den am (i : Int) goal 20 (startR home) = some s2 ∧ backR home 20 s2.by_ goal [] = some r := by
    have h := HR.out
    unfold roundR at h
    rw [hamt, ehome, egoal] at h
    cases hs : searchR den am (i : Int) goal 20 (startR home) with
    | none => rw [hs] at h; cases h
    | some s2 => rw [hs] at h; exact ⟨s2, rfl, h⟩
  have HS2 := Aside0.mk hs2
  have HB2 := Aside0.mk hb2
  obtain ⟨hg0, hg14⟩ : 0 ≤ goal ∧ goal < 14 := by rw [← egoal]; exact hAm.1
  clear hs2 hb2 HR hamt hAm
  have HMID : ∀ a W, (∃ (s : RSt) (L c : Nat) (Ds : List Nat), (∃ f, a = F1 B w.heap.size (i : Int) home Ds f) ∧ RI w W B base den vc bA cA am goal L c s ∧ RD (w.heap.size + 6) W Ds ∧ backR home 20 s.by_ goal [] = some r) → K0 a W := by
    rintro a W ⟨s, L, c, Ds, ⟨f, rfl⟩, hI, hD, hb⟩
    have HI := Aside0.mk hI
    have HD := Aside0.mk hD
    have HBK := Aside0.mk hb
    refine hK0 _ _ ?_
    clear hI hD hb HS2 HB2 HRI hK0 K0
    unfold F1
    have cg : W.cell? ⟨w.heap.size + 1, 0, none⟩ = some (.int .i64 goal) := HI.out.g.cell 0
    go_wp2_with fail
    clear cg
    refine wp_loop_ghost_k (fun kq a W => ∃ (out : List S117) (vo : Value) (at_ : Int) (by_ : Int → Option S117) (N : Nat), (∃ f, a = F2 B w.heap.size (i : Int) home vo at_ Ds f) ∧
      Aside0 (RI w W B base den vc bA cA am goal L c ⟨s.seen, by_, s.wait⟩) ∧ Aside0 (RD (w.heap.size + 6) W Ds) ∧ Aside0 (Kd.R k117 117 W (w.heap.size + 6) (fun _ => True) vo out) ∧ Aside0 (backR home kq by_ at_ out = some r) ∧ Aside0 (out.length + kq ≤ 20)) 20 ?_ ?_
    · exact ⟨[], .slice none 0 0, goal, s.by_, 0, F2.intro rfl, HI, HD, ⟨Kd.R_nil _ _ _ _ _⟩, HBK, ⟨(by simp)⟩⟩
    · clear HI HD HBK
      rintro kq _ WR ⟨out, vo, at_, by_, N, ⟨f, rfl⟩, HI, HD, HO, HT, HL⟩ J K hJ hK
      unfold F2
      by_cases hh : at_ = home
      · have hq : (at_ != home) = false := by simp [hh]
        have HE : out = r := by
          have h := HT.out
          cases kq <;> (rw [backR, if_pos hh] at h; injection h)
        have HE := Lib.hid HE
        clear hh
        go_wp2_with fail
        rw [onRet_ret]
        obtain ⟨A', c', hvo, _⟩ := R117_form HO.out
        refine marks_leaves (lo := w.heap.size + 6) _ vo (fun W => Kd.R k117 117 W (w.heap.size + 6) (fun _ => True) vo r ∧ Bk W B base den vc bA cA am s.seen ∧ w.grownBy W (some B)) (fun W => results_tmp (fn := Try.f87) (t := 4) rfl _ Try.prog W) ?_ ?_ Ds WR HD.out ?_
        · rintro W D ⟨h1, h2, h3⟩ hD1 hD2
          have hg := grownBy_putObj' W D (.deferred none)
          have h4 := HI.out.lt
          exact ⟨R117_kept h1 hg (fun r e => .inr ⟨.deferred (some []), (by injection e with e; subst e; exact hD2), rfl⟩), h2.kept hg (by simp; omega) (by simp; omega), gmore h3 hg (fun r e => .inr (by injection e with e; omega))⟩
        · rintro W ⟨h1, h2, h3⟩
          rw [hvo, HE.out] at h1
          rw [hvo, HE.out]
          exact ⟨A', c', s.seen, rfl, Kd.R_lower h1 (by omega), h2, h3⟩
        · rw [← HE.out]
          exact ⟨HO.out, HI.out.bk, HI.out.fr⟩
      · have hq : (at_ != home) = true := by simp [hh]
        obtain ⟨k1, rfl⟩ : ∃ k1, kq = k1 + 1 := by
          cases kq with
          | zero => have h := HT.out; rw [backR, if_neg hh] at h; cases h
          | succ k1 => exact ⟨k1, rfl⟩
        obtain ⟨N2, hN2⟩ := HI.out.mp
        have hlk := hN2.lookup keyI Try.underlying137 (z := enc117 z117) (fun w => by kernel_rfl) at_ false
        obtain ⟨sv, hsv⟩ : ∃ sv, (by_ at_).getD z117 = sv := ⟨_, rfl⟩
        have hlk2 : (Instr.lookup 137 (.map (some (w.heap.size + 2))) (.int .i64 at_) false).run Try.prog WR = .ok (enc117 sv) WR := by
          rw [← hsv]
          have e : ((by_ at_).map enc117).getD (enc117 z117) = enc117 ((by_ at_).getD z117) := by cases by_ at_ <;> rfl
          have h : (Instr.lookup 137 (.map (some (w.heap.size + 2))) (encI at_) false).run Try.prog WR = .ok (((by_ at_).map enc117).getD (enc117 z117)) WR := by simpa using hlk
          rw [e] at h
          exact h
        have HT2 := Lib.hid (show (if sv = z117 then some [] else backR home k1 (fun q => if q = at_ then none else by_ q) sv.f1 (out ++ [sv])) = some r by
          have h := HT.out
          rw [backR, if_neg hh, hsv] at h
          exact h)
        clear hlk hsv HT hh hN2
        have cmb : WR.cell? ⟨w.heap.size + 3, 0, none⟩ = some (.map (some (w.heap.size + 2))) := HI.out.mb.cell 0
        rcases sv with ⟨x0, x1, x2⟩
        have e17 : enc117 ⟨x0, x1, x2⟩ = .agg #[.int .i64 x0, .int .i64 x1, .int .i64 x2] := rfl
        rw [e17] at hlk2
        go_upto_region 20 with (fail)
        have HB1 := Lib.hid (box1 WR (.cells #[.int .i64 x0, .int .i64 x1, .int .i64 x2] 117))
        have BT := Lib.hid (Blk.new WR #[.int .i64 x0, .int .i64 x1, .int .i64 x2] 117)
        have HI1 := Lib.hid (HI.out.below HB1.out)
        have HD1 := Lib.hid (HD.out.below HB1.out)
        have HO1 := Lib.hid (Kd.R_below HO.out HB1.out)
        have hgsz := HI.out.sz
        clear HB1 HI HD HO cmb hlk2
        generalize WR.alloc (.cells #[.int .i64 x0, .int .i64 x1, .int .i64 x2] 117) = W1 at *
        generalize WR.heap.size = gb at *
        have z0 : W1.cell? ⟨gb, 0, none⟩ = some (.int .i64 x0) := BT.out.cell 0
        have z1 : W1.cell? ⟨gb, 1, none⟩ = some (.int .i64 x1) := BT.out.cell 1
        have z2 : W1.cell? ⟨gb, 2, none⟩ = some (.int .i64 x2) := BT.out.cell 2
        by_cases hz : (⟨x0, x1, x2⟩ : S117) = z117
        · have hzd : decide ((⟨x0, x1, x2⟩ : S117) = z117) = true := decide_eq_true hz
          have hr0 : r = [] := by
            have h := HT2.out
            rw [if_pos hz] at h
            injection h with h
            exact h.symm
          have HR0 := Lib.hid hr0
          clear hz hr0
          go_wp2_with ((with_reducible refine gate_dst (N := 97) rfl ?_); refine eql_117 rfl 95 96 _ rfl ⟨x0, x1, x2⟩ z117 rfl rfl ?_; rw [hzd])
          rw [onRet_ret]
          refine marks_leaves (lo := w.heap.size + 6) _ (.slice none 0 0) (fun W => Bk W B base den vc bA cA am s.seen ∧ w.grownBy W (some B)) (fun W => results_tmp (fn := Try.f87) (t := 4) rfl _ Try.prog W) ?_ ?_ Ds W1 HD1.out ⟨HI1.out.bk, HI1.out.fr⟩
          · rintro W D ⟨h2, h3⟩ hD1 hD2
            have hg := grownBy_putObj' W D (.deferred none)
            have h4 := HI1.out.lt
            exact ⟨h2.kept hg (by simp; omega) (by simp; omega), gmore h3 hg (fun r e => .inr (by injection e with e; omega))⟩
          · rintro W ⟨h2, h3⟩
            rw [HR0.out]
            exact ⟨none, 0, rfl, Kd.R_nil _ _ _ _ _, ⟨s.seen, h2⟩, h3⟩
        · have hzd : decide ((⟨x0, x1, x2⟩ : S117) = z117) = false := decide_eq_false hz
          have HT3 := Lib.hid (show backR home k1 (fun q => if q = at_ then none else by_ q) x1 (out ++ [⟨x0, x1, x2⟩]) = some r by
            have h := HT2.out
            rwa [if_neg hz] at h)
          clear hz HT2
          obtain ⟨N3, hN3⟩ := HI1.out.mp
          obtain ⟨W2, hdel, hM2, hg2⟩ := hN3.delete keyI Try.underlying137 (ty := 0) at_ #[137, 3] rfl
          have hdel' : ∀ ty, (Builtin.delete_ #[137, 3] ty #[.map (some (w.heap.size + 2)), .int .i64 at_]).run Try.prog W1 = .ok (.tuple #[]) W2 := fun ty => hdel
          have HI2 := Lib.hid (HI1.out.mapped hg2 hM2 (f2 := fun q => if q = at_ then none else by_ q) (fun q => by split <;> rfl))
          have HD2 := Lib.hid (HD1.out.kept hg2 (fun r e => .inl (by injection e with e; omega)))
          have HO2 := Lib.hid (R117_kept HO1.out hg2 (fun r e => .inl (by injection e with e; omega)))
          have hgb : gb < W1.heap.size := BT.out.lt
          have cmb : W1.cell? ⟨w.heap.size + 3, 0, none⟩ = some (.map (some (w.heap.size + 2))) := HI1.out.mb.cell 0
          have hb6 : w.heap.size + 6 ≤ gb := hgsz
          have BT2 := Lib.hid (BT.out.kept hg2 (by simp; omega))
          clear hdel hM2 hN3 HI1 HD1 HO1
          go_upto_region 23 with ((with_reducible refine gate_dst (N := 97) rfl ?_); refine eql_117 rfl 95 96 _ rfl ⟨x0, x1, x2⟩ z117 rfl rfl ?_; rw [hzd])
          clear z0 z1 z2 cmb hdel' BT
          obtain ⟨Wd, ed⟩ : ∃ Wd, W2.drew = Wd := ⟨_, rfl⟩
          have hd0 : Below W2.heap.size W2 Wd := by rw [← ed]; exact below_drew (Below.refl _ _)
          have hRd := Kd.R_below HO2.out hd0
          obtain ⟨A1, c1, eA, hle1, A', c', w', hap, hR', hgr⟩ := grow117 hRd (by have := HL.out; omega) ⟨x0, x1, x2⟩
          have hcut := cut_full_115 A1 out.length c1 hle1
          subst eA
          have BTd := BT2.out.below hd0 BT2.out.lt
          have HId := HI2.out.below hd0
          have HDd := HD2.out.below hd0
          have hWs : w.heap.size + 6 ≤ Wd.heap.size := HId.sz
          have hAl := below_alloc (Below.refl Wd.heap.size Wd) (.cells #[.int .i64 x0, .int .i64 x1, .int .i64 x2] 117)
          have z0 : Wd.cell? ⟨gb, 0, none⟩ = some (.int .i64 x0) := BTd.cell 0
          have z1 : Wd.cell? ⟨gb, 1, none⟩ = some (.int .i64 x1) := BTd.cell 1
          have z2 : Wd.cell? ⟨gb, 2, none⟩ = some (.int .i64 x2) := BTd.cell 2
          have BTw := BTd.kept hgr (by simp)
          have y0 : w'.cell? ⟨gb, 0, none⟩ = some (.int .i64 x0) := BTw.cell 0
          have y1 : w'.cell? ⟨gb, 1, none⟩ = some (.int .i64 x1) := BTw.cell 1
          have y2 : w'.cell? ⟨gb, 2, none⟩ = some (.int .i64 x2) := BTw.cell 2
          have HI3 := Lib.hid (HId.kept hgr (fun r e => by cases e))
          have HD3 := Lib.hid (HDd.kept hgr (fun r e => by cases e))
          have HO3 := Lib.hid (Kd.R_lower hR' hWs)
          have HAP := Lib.hid hap
          clear hRd hR' hgr hap HId HDd HI2 HD2 HO2 BT2
          refine sA_ 10 (fun w' => w'.cell? ⟨gb, 0, none⟩ = some (.int .i64 x0) ∧ w'.cell? ⟨gb, 1, none⟩ = some (.int .i64 x1) ∧ w'.cell? ⟨gb, 2, none⟩ = some (.int .i64 x2)) [] round87.tab23 round87.bits23 (by rw [ed]; exact ⟨z0, z1, z2⟩) (fun hHeld HT_ HW_ => ?_)
          rw [ed] at hHeld ⊢
          refine pA_ 0 (some 100) 10 1 ?_
          refine pA_ 1 (some 101) 10 3 ?_
          refine pA_ 2 (some 102) 10 7 ?_
          refine pA_ 3 (some 103) 10 15 ?_
          refine pA_ 4 (some 104) 10 31 ?_
          refine pA_ 5 (some 105) 10 63 ?_
          refine tE_ 6 (some 106) 10 127 ?_
          refine oA_ 7 (some 107) 10 255 (fun K hK => ?_)
          refine event_step (by rfl) (w1 := Wd.alloc (.cells #[.int .i64 x0, .int .i64 x1, .int .i64 x2] 117)) (v := .slice (some ⟨Wd.heap.size, 0, none⟩) 1 1) (by go_simp) ?_
          refine hK.out _ _ ⟨cell_in hAl z0, cell_in hAl z1, cell_in hAl z2⟩ (fun hHeld => ?_)
          clear hK K
          refine nA_ (some 107) ?_
          refine oA_ 8 (some 108) 10 511 (fun K hK => ?_)
          refine append_step (by rfl) (.tmp 105) (.tmp 107) 115 rfl _ _ _ w' rfl rfl HAP.out ?_
          refine hK.out _ _ ⟨y0, y1, y2⟩ (fun hHeld => ?_)
          clear hK K
          refine nA_ (some 108) ?_
          refine pA_ 9 (some 11) 10 1023 ?_
          refine dA_ ?_
          clear hHeld HT_ HW_ hcut z0 z1 z2 hAl BTd BTw hd0 ed HAP hle1
          go_wp2_with fail
          exact Handed.intro k1 (Nat.lt_succ_self _) (hJ _ _ _ ⟨out ++ [⟨x0, x1, x2⟩], _, x1, _, 0, F2.intro rfl, ⟨HI3.out⟩, ⟨HD3.out⟩, ⟨HO3.out⟩, ⟨HT3.out⟩, ⟨(by have := HL.out; simp; omega)⟩⟩)
  replace HMID := Aside0.mk HMID
  clear hK0
  refine wp_loop_ghost_k (fun kq a W => ∃ (s : RSt) (L c : Nat) (Ds : List Nat), (∃ f, a = F1 B w.heap.size (i : Int) home Ds f) ∧
    Aside0 (RI w W B base den vc bA cA am goal L c s) ∧ Aside0 (RD (w.heap.size + 6) W Ds) ∧ Aside0 (searchR den am (i : Int) goal kq s = some s2) ∧ Aside0 (s.wait.length + 100 * kq ≤ 2001)) 20 ?_ ?_
  · exact ⟨startR home, w.heap.size + 4, 1, [], F1.intro rfl, HRI, ⟨RD.nil _ _⟩, HS2, ⟨(by simp [startR])⟩⟩
  clear HRI
  rintro kq _ WR ⟨s, L, c, Ds, ⟨f, rfl⟩, HI, HD, HT, HL⟩ J K hJ hK
  unfold F1
  by_cases hw : s.wait = []
  · have hl0 : s.wait.length = 0 := by rw [hw]; rfl
    have cw : WR.cell? ⟨w.heap.size + 5, 0, none⟩ = some (.slice (some ⟨L, 0, none⟩) s.wait.length c) := HI.out.wb.cell 0
    rw [hl0] at cw
    have HE : s = s2 := by
      have h := HT.out
      cases kq <;> (rw [searchR, if_pos hw] at h; injection h)
    have HE := Lib.hid HE
    have HWN := Lib.hid hw
    clear hw hl0
    go_wp2_with fail
    refine HMID.out _ _ ⟨s, L, c, Ds, F1.intro rfl, HI.out, HD.out, ?_⟩
    rw [HE.out]
    exact HB2.out
  obtain ⟨n1, hl1⟩ : ∃ n1, s.wait.length = n1 + 1 := ⟨s.wait.length - 1, (by have : s.wait.length ≠ 0 := fun e => hw (List.length_eq_zero_iff.1 e); omega)⟩
  obtain ⟨k1, rfl⟩ : ∃ k1, kq = k1 + 1 := by
    cases kq with
    | zero => have h := HT.out; rw [searchR, if_neg hw] at h; cases h
    | succ k1 => exact ⟨k1, rfl⟩
  have hn2 : n1 ≤ 2001 := by have := HL.out; omega
  obtain ⟨at_, hat⟩ : ∃ x, lastI s.wait = x := ⟨_, rfl⟩
  have HT2 := Lib.hid (show (if (turnR den am i goal s).2 = true then some (turnR den am i goal s).1 else searchR den am i goal k1 (turnR den am i goal s).1) = some s2 by
    have h := HT.out
    rwa [searchR, if_neg hw] at h)
  have cw : WR.cell? ⟨w.heap.size + 5, 0, none⟩ = some (.slice (some ⟨L, 0, none⟩) s.wait.length c) := HI.out.wb.cell 0
  have fw := HI.out.wb.fz 0
  have cx : WR.cell? ⟨w.heap.size, 0, none⟩ = some (.pointer (some ⟨B, 0, none⟩)) := HI.out.x.cell 0
  have cl : WR.cell? ⟨L, n1, none⟩ = some (.int .i64 at_) := by
    have := HI.out.row.cell n1 (by omega)
    rw [this, ← hat]
    simp [lastI, hl1, List.getD_eq_getElem?_getD]
  have hrc : s.wait.length ≤ c ∧ c ≤ 9223372036854775807 := ⟨HI.out.row.le, HI.out.row.cap_le⟩
  have hpop := HI.out.pop
  have HAT := Lib.hid hat
  have HWN := Lib.hid hw
  clear hat hw HT
  rw [hl1] at cw hrc hpop
  rw [Nat.add_sub_cancel] at hpop
  have HPOP := Lib.hid hpop
  clear hpop
  go_upto_region 9 with (fail)
  obtain ⟨W1, e1⟩ : ∃ W1, WR.setCell ⟨w.heap.size + 5, 0, none⟩ (.slice (some ⟨L, 0, none⟩) n1 c) = W1 := ⟨_, rfl⟩
  have HD1 := Lib.hid (HD.out.kept (grown_set WR (w.heap.size + 5) 0 (.slice (some ⟨L, 0, none⟩) n1 c)) (fun r e => .inl (by injection e with e; omega)))
  rw [e1] at HPOP HD1 ⊢
  clear e1 cw fw cx cl hrc HI HD
  obtain ⟨s1, es1⟩ : ∃ s1, (⟨s.seen, s.by_, s.wait.take n1⟩ : RSt) = s1 := ⟨_, rfl⟩
  have HTR := Lib.hid (show turnR den am i goal s = (stepsTo den at_ i am am.length).foldl (bodyR goal) (s1, false) by rw [turnR, HAT.out, ← es1, hl1, Nat.add_sub_cancel])
  have HL1 := Lib.hid (show s1.wait.length + 100 * (k1 + 1) ≤ 2001 by rw [← es1]; have := HL.out; simp only [List.length_take]; omega)
  rw [es1] at HPOP
  clear es1 HL HAT HWN hl1
  have cx : W1.cell? ⟨w.heap.size, 0, none⟩ = some (.pointer (some ⟨B, 0, none⟩)) := HPOP.out.x.cell 0
  go_wp2_with (go_at_call 104; refine (steps_calls HPOP.out.bk at_ (i : Int)).mono ?_; rintro e W2 ⟨rfl, hst, hb2, hsz2⟩; have HST := Lib.hid hst; have HB2' := Lib.hid hb2; have HSZ2 := Lib.hid hsz2; clear hst hb2 hsz2)
  have HI2 := Aside0.mk (HPOP.out.below HB2'.out)
  have HD2 := Aside0.mk (HD1.out.below HB2'.out)
  have hW1 : w.heap.size + 6 ≤ W1.heap.size := HPOP.out.sz
  have hLg : L < W1.heap.size := HPOP.out.row.lt
  have hsz2 := HSZ2.out
  have hBA := HPOP.out.lt
  clear HPOP HD1 HB2' HSZ2 cx
  generalize W1.heap.size = g1 at *
  have HDlt := Aside0.mk (show ∀ D ∈ Ds, D < W2.heap.size from fun D hD => (Array.getElem?_eq_some_iff.1 (HD2.out.2 D hD).2).1)
  refine wpIn_wide.1 (rangeSteps rfl (steps_stops (fun q => q = bA ∨ q = g1 ∨ q = g1 + 1 ∨ q = g1 + 2 ∨ q = g1 + 3) B base den vc bA cA am g1 (g1 + 1) (g1 + 2) (g1 + 3) at_ (i : Int) W2 HST.out ⟨.inr (.inl rfl), .inr (.inr (.inl rfl)), .inr (.inr (.inr (.inl rfl))), .inr (.inr (.inr (.inr rfl))), .inl rfl⟩ HOK.out hd hn) (fun q hq => by omega) (by omega)
    (RJ w B base den vc bA cA am goal s1 false g1 W2.heap.size Ds) (fun c' pre W => c' = .exit 0 ∧ RJ w B base den vc bA cA am goal s1 true g1 W2.heap.size Ds pre W) ?jown ?jownx ?jinit ?jassign ?jbody ?jdone ?jstop)
  case jown => exact RJ.own (by omega) HDlt.out
  case jownx =>
    rintro c' pre X Y row ⟨h1, h2⟩ hg hr
    exact ⟨h1, RJ.own (by omega) HDlt.out pre X Y row h2 hg hr⟩
  case jinit => exact ⟨L, c, s1, rfl, HI2.out, HD2.out, Nat.le_refl _, .inl hLg⟩
  case jassign =>
    rintro ll pre ⟨⟨x0, x1, x2⟩, hx⟩ W K' hi' hK'
    have HI' := Lib.hid hi'
    clear hi'
    simp only [enc117', List.setIfInBounds_toArray, List.set_cons_zero, List.set_cons_succ]
    gi_wp2
    have g7 := World.grownBy_alloc W (.cells #[.int .i64 x0, .int .i64 x1, .int .i64 x2] 117) none
    have hWsz : W2.heap.size ≤ W.heap.size := by obtain ⟨_, _, _, _, _, _, h, _⟩ := HI'.out; exact h
    refine hK' _ _ ((KeepsOthers.alloc _ _).from _) ?_ (RJ.own (by omega) HDlt.out pre _ _ none HI'.out g7 (fun r e => by cases e)) ⟨W.heap.size, hWsz, Blk.new W _ 117, rfl⟩
    exact ⟨g7.size, fun q hq => g7.block q (by omega) (by simp), fun seen hs hb => ⟨seen, hs, (g7.block B (by omega) (by simp)).trans hb⟩⟩
  case jbody =>
    rintro ll pre ⟨⟨x0, x1, to_⟩, hx⟩ b W ⟨L3, c3, s', hf, hI, hD', hs, hL3⟩ hpl hb hbk
    have HSF := Lib.hid (show ((pre ++ [(⟨⟨x0, x1, to_⟩, hx⟩ : OutStep)]).map (·.1)).foldl (bodyR goal) (s1, false) = bodyR goal (s', false) ⟨x0, x1, to_⟩ by rw [List.map_append, List.foldl_append, hf]; rfl)
    have hto0 : 0 ≤ to_ := hx.1
    have hto14 : to_ < 14 := hx.2
    have HWL := Lib.hid (show s'.wait.length ≤ 1000000 by
      have h1 := fold_wait goal (pre.map (·.1)) (s1, false)
      rw [hf] at h1
      have h2 := HL1.out
      dsimp only at h1
      rw [List.length_map] at h1
      omega)
    simp only [updS, enc117', List.setIfInBounds_toArray, List.set_cons_zero, List.set_cons_succ]
    clear hf HT2 HTR HL1 HDlt HI2 HD2 hK hJ HST HMID HB2 HS2
    clear K J K0
    have HI := Lib.hid hI
    have HD := Lib.hid hD'
    have HBK := Lib.hid hbk
    have cx : W.cell? ⟨w.heap.size, 0, none⟩ = some (.pointer (some ⟨B, 0, none⟩)) := hI.x.cell 0
    have ct : W.cell? ⟨b, 2, none⟩ = some (.int .i64 to_) := hbk.cell 2
    have cs := hI.bk.cseen to_.toNat (by omega)
    obtain ⟨sv, hsv⟩ : ∃ sv, s'.seen.getD to_.toNat 0 = sv := ⟨_, rfl⟩
    rw [hsv] at cs
    have hlo3 := hI.lo
    have HKlt := Lib.hid (show ∀ q, (q = bA ∨ q = g1 ∨ q = g1 + 1 ∨ q = g1 + 2 ∨ q = g1 + 3) → q < W.heap.size ∧ q ≠ B ∧ q ≠ w.heap.size + 2 ∧ q ≠ w.heap.size + 5 ∧ q ≠ L3 from fun q hq => by omega)
    have hBW : B < W.heap.size := by omega
    clear hI hD' hbk
    by_cases h1 : sv = 1
    · have hq : (sv == 1) = true := by simp [h1]
      have HBR := Lib.hid (show bodyR goal (s', false) ⟨x0, x1, to_⟩ = (s', false) from bodyR_seen (by rw [hsv]; exact h1))
      clear hsv h1
      gi_upto_region 11 with (fail)
      refine below_round 2 ll (by kernel_rfl) (by kernel_rfl) (by kernel_rfl) (by rintro ⟨_, _, h⟩; exact h) ?_
      have gx := cell_regrown cx
      have gt := cell_regrown ct
      have gs := cell_regrown cs
      repeat (go_big_quiet_step (fail))
      refine wpQuiet_nil ?_
      intro _ hw'
      obtain ⟨⟨dq, osq⟩, hw''⟩ := hw'
      subst hw''
      clear gx gt gs
      gi_wp2_with fail
      have hb1 := below_regrown W dq osq
      exact ⟨KeepsFrom.of_grownBy (grown_of_below hb1 none) (fun j e => by cases e), KpS.below (fun q hq => (HKlt.out q hq).1) hBW hb1, L3, c3, s', HSF.out.trans HBR.out, HI.out.below hb1, HD.out.below hb1, (by have := hb1.size; omega), (by omega)⟩
    have hq : (sv == 1) = false := by simp [h1]
    have HBR := Lib.hid (show bodyR goal (s', false) ⟨x0, x1, to_⟩ = if to_ = goal then (⟨s'.seen.set to_.toNat 1, fun k => if k = to_ then some ⟨x0, x1, to_⟩ else s'.by_ k, s'.wait⟩, true) else (⟨s'.seen.set to_.toNat 1, fun k => if k = to_ then some ⟨x0, x1, to_⟩ else s'.by_ k, s'.wait ++ [to_]⟩, false) from bodyR_new (by rw [hsv]; exact h1))
    clear hsv h1
    gi_upto_region 11 with (fail)
    refine below_round 2 ll (by kernel_rfl) (by kernel_rfl) (by kernel_rfl) (by rintro ⟨_, _, h⟩; exact h) ?_
    have gx := cell_regrown cx
    have gt := cell_regrown ct
    have gs := cell_regrown cs
    repeat (go_big_quiet_step (fail))
    refine wpQuiet_nil ?_
    intro _ hw'
    obtain ⟨⟨dq, osq⟩, hw''⟩ := hw'
    subst hw''
    clear gx gt gs cx ct cs
    gi_upto_region 12 with (fail)
    have HB1 := Lib.hid (below_regrown W dq osq)
    have HI1 := Lib.hid (HI.out.below HB1.out)
    have HD1 := Lib.hid (HD.out.below HB1.out)
    have HBK1 := Lib.hid (HBK.out.below HB1.out HBK.out.lt)
    generalize «Sort».grow (redrawn W dq) osq = W3 at *
    obtain ⟨W4, e4⟩ : ∃ W4, W3.drew = W4 := ⟨_, rfl⟩
    have hb4 : Below W3.heap.size W3 W4 := by rw [← e4]; exact below_drew (Below.refl _ _)
    have HB4 := Lib.hid (below_then HB1.out HB1.out.size hb4)
    have HI4 := Lib.hid (HI1.out.below hb4)
    have HD4 := Lib.hid (HD1.out.below hb4)
    have HBK4 := Lib.hid (HBK1.out.below hb4 HBK1.out.lt)
    clear HI1 HD1 HBK1 HB1 hb4 HI HD HBK
    have cx : W4.cell? ⟨w.heap.size, 0, none⟩ = some (.pointer (some ⟨B, 0, none⟩)) := HI4.out.x.cell 0
    have ct : W4.cell? ⟨b, 2, none⟩ = some (.int .i64 to_) := HBK4.out.cell 2
    have cs := HI4.out.bk.cseen to_.toNat (by omega)
    have cf := HI4.out.bk.at_.fz (3 + to_.toNat)
    refine tail_round 2 ll 6 (by kernel_rfl) (by kernel_rfl) (by kernel_rfl) (by rintro ⟨_, _, h⟩; exact h) ?_
    rw [e4]
    simp only [List.take_succ_cons, List.take_zero, List.drop_succ_cons, List.drop_zero]
    repeat still_step
    refine wpStill_nil ?_
    go_wp2_with fail
    have hg5 := grown_set W4 B (3 + to_.toNat) (.int .i64 1)
    have HI5 := Lib.hid (HI4.out.mark to_.toNat (by omega) 1)
    have HD5 := Lib.hid (HD4.out.kept hg5 (fun r e => .inl (by injection e with e; omega)))
    have HBK5 := Lib.hid (HBK4.out.kept hg5 (by simp; omega))
    have hsz4 := HB4.out.size
    have HK5 := Lib.hid (KpS.trans (KpS.below (fun q hq => (HKlt.out q hq).1) hBW HB4.out) (KpS.mark (den := den) (vc := vc) (bA := bA) (n := am.length) (cA := cA) (W := W4) (fun q hq => ⟨(by have := HKlt.out q hq; omega), (HKlt.out q hq).2.1⟩) to_.toNat (by omega) 1))
    have HF5 := Lib.hid (((KeepsFrom.of_grownBy (grown_of_below HB4.out none) (fun j e => by cases e) : KeepsFrom W2.heap.size W W4)).trans (KeepsFrom.of_grownBy hg5 (fun j e => by injection e with e; omega)))
    obtain ⟨W5, e5⟩ : ∃ W5, W4.setCell ⟨B, 3 + to_.toNat, none⟩ (.int .i64 1) = W5 := ⟨_, rfl⟩
    rw [e5] at hg5 HI5 HD5 HBK5 HK5 HF5 ⊢
    have hsz5 : W.heap.size ≤ W5.heap.size := HK5.out.1
    clear e5 e4 hg5 HI4 HD4 HBK4 HB4 hsz4 cx ct cs cf
    obtain ⟨N5, hN5⟩ := HI5.out.mp
    obtain ⟨W6, hup, hM6, hg6⟩ := hN5.update keyI Try.underlying137 to_ (.agg #[.int .i64 x0, .int .i64 x1, .int .i64 to_])
    have hup' : (Instr.mapUpdate 137 (.map (some (w.heap.size + 2))) (.int .i64 to_) (.agg #[.int .i64 x0, .int .i64 x1, .int .i64 to_])).run Try.prog W5 = .ok () W6 := hup
    have HI6 := Lib.hid (HI5.out.mapped hg6 hM6 (f2 := fun k => if k = to_ then some ⟨x0, x1, to_⟩ else s'.by_ k) (fun k => by split <;> rfl))
    have HD6 := Lib.hid (HD5.out.kept hg6 (fun r e => .inl (by injection e with e; omega)))
    have HBK6 := Lib.hid (HBK5.out.kept hg6 (by simp; omega))
    have HK6 := Lib.hid (HK5.out.trans (KpS.grown (den := den) (vc := vc) (fun q hq => ⟨(by have := HKlt.out q hq; omega), (by have := HKlt.out q hq; simp; omega)⟩) ⟨(by omega), (by simp; omega)⟩ hg6))
    have HF6 := Lib.hid (HF5.out.trans (KeepsFrom.of_grownBy hg6 (fun j e => by injection e with e; omega)))
    have cm : W5.cell? ⟨w.heap.size + 3, 0, none⟩ = some (.map (some (w.heap.size + 2))) := HI5.out.mb.cell 0
    have c0 : W5.cell? ⟨b, 0, none⟩ = some (.int .i64 x0) := HBK5.out.cell 0
    have c1 : W5.cell? ⟨b, 1, none⟩ = some (.int .i64 x1) := HBK5.out.cell 1
    have c2 : W5.cell? ⟨b, 2, none⟩ = some (.int .i64 to_) := HBK5.out.cell 2
    clear hup hM6 hN5 HI5 HD5 HBK5 HK5 HF5
    gi_upto_region 14 with (fail)
    have hsz6 : W.heap.size ≤ W6.heap.size := HK6.out.1
    clear cm c0 c1 c2 hup' hg6
    have c2 : W6.cell? ⟨b, 2, none⟩ = some (.int .i64 to_) := HBK6.out.cell 2
    have cg : W6.cell? ⟨w.heap.size + 1, 0, none⟩ = some (.int .i64 goal) := HI6.out.g.cell 0
    by_cases hgo : to_ = goal
    · have hgq : (to_ == goal) = true := by simp [hgo]
      have HB2 := Lib.hid (HBR.out.trans (if_pos hgo))
      clear hgo
      gi_wp2_with fail
      refine ⟨(by rw [← hsz2]; exact HF6.out), rfl, L3, c3, _, HSF.out.trans HB2.out, HI6.out, HD6.out, (by omega), (by omega)⟩
    have hgq : (to_ == goal) = false := by simp [hgo]
    have HB2 := Lib.hid (HBR.out.trans (if_neg hgo))
    clear hgo
    gi_upto_region 15 with (fail)
    obtain ⟨L7, c7, w7, hap, hwb, hko, hgr, hi7, hL7⟩ := HI6.out.push HWL.out to_
    have cw : W6.cell? ⟨w.heap.size + 5, 0, none⟩ = some (.slice (some ⟨L3, 0, none⟩) s'.wait.length c3) := HI6.out.wb.cell 0
    have cw7 : w7.cell? ⟨w.heap.size + 5, 0, none⟩ = some (.slice (some ⟨L3, 0, none⟩) s'.wait.length c3) := hwb.cell 0
    have fw7 := hwb.fz 0
    have HAP := Lib.hid hap
    have HI7 := Lib.hid hi7
    have hal : W6.grownBy (W6.alloc (.cells #[.int .i64 to_] 3)) none := World.grownBy_alloc _ _ _
    have hs5 := grown_set w7 (w.heap.size + 5) 0 (.slice (some ⟨L7, 0, none⟩) (s'.wait.length + 1) c7)
    have hg7 := hgr.size
    have hal7 := hal.size
    have HK7 := Lib.hid (HK6.out.trans (KpS.trans (KpS.grown (den := den) (vc := vc) (vA := .slice (some ⟨bA, 0, none⟩) am.length cA) (fun q hq => ⟨(by have := HKlt.out q hq; omega), (by simp)⟩) ⟨(by omega), (by simp)⟩ hal) (KpS.trans (KpS.grown (fun q hq => ⟨(by have := HKlt.out q hq; omega), (by have := HKlt.out q hq; simp; omega)⟩) ⟨(by omega), (by simp; omega)⟩ hgr)
      (KpS.grown (fun q hq => ⟨(by have := HKlt.out q hq; omega), (by have := HKlt.out q hq; simp; omega)⟩) ⟨(by omega), (by simp; omega)⟩ hs5))))
    have HF7 := Lib.hid (HF6.out.trans ((hko.trans (KeepsOthers.setCell _ _ _)).from _ : KeepsFrom W2.heap.size W6 (w7.setCell ⟨w.heap.size + 5, 0, none⟩ (.slice (some ⟨L7, 0, none⟩) (s'.wait.length + 1) c7))))
    have hLc : ∃ cs t f, (W6.alloc (.cells #[.int .i64 to_] 3)).heap[L3]? = some (.cells cs t f) := by
      have h := HI6.out.alloc (.cells #[.int .i64 to_] 3)
      obtain ⟨cur, hb, _⟩ := h.row.ex
      exact ⟨_, _, _, hb⟩
    have HD7 := Lib.hid (((HD6.out.kept hal (fun r e => by cases e)).kept hgr (fun r e => .inr (by injection e with e; rw [← e]; exact hLc))).kept hs5 (fun r e => .inl (by injection e with e; omega)))
    have hsz7 := hs5.size
    clear hap hi7 hko hgr hal hs5 hLc HI6 HD6 HK6 HF6 HBK6
    gi_wp2_with (refine append_runIn rfl (.tmp 83) (.tmp 86) 136 rfl _ _ _ w7 rfl rfl HAP.out ?_)
    refine ⟨(by rw [← hsz2]; exact HF7.out), HK7.out, L7, c7, _, HSF.out.trans HB2.out, HI7.out, HD7.out, (by omega), (by omega)⟩
  case jdone =>
    rintro D xs W hD hxs ⟨L', c', s', hf, hI, hD', hs, _⟩ hWD
    rw [hxs] at hf
    rw [hf] at HTR
    have h2 := HT2.out
    rw [HTR.out] at h2
    have h3 := fold_wait goal (stepsTo den at_ (i : Int) am am.length) (s1, false)
    rw [hf] at h3
    have h4 := stepsTo_len den at_ (i : Int) am am.length
    have h5 := HL1.out
    exact hK _ _ (Handed.intro k1 (Nat.lt_succ_self _) (hJ _ _ _ ⟨s', L', c', D :: Ds, F1.intro rfl, ⟨hI⟩, ⟨hD'.cons (by omega) hWD (fun h => by have := HDlt.out D h; omega)⟩, ⟨(by simpa using h2)⟩, ⟨(by dsimp only at h3; omega)⟩⟩))
  rintro D _ pre W hD hpre ⟨rfl, L', c', s', hf, hI, hD', hs⟩ hWD
  have h1 := foldl_prefix hpre hf
  rw [h1] at HTR
  have h2 := HT2.out
  rw [HTR.out] at h2
  have h3 : s' = s2 := by simpa using h2
  refine wpIn_wide.2 ?_
  go_wp2_with fail
  refine HMID.out _ _ ⟨s', L', c', D :: Ds, F1.intro rfl, hI, hD'.cons (by omega) hWD (fun h => by have := HDlt.out D h; omega), ?_⟩
  rw [h3]
  exact HB2.out
end Go.Proofs.Ytcgdbjojjpoegaa.P

namespace Go.Proofs.Ytcgdbjojjpoegaa.P
open Go.RowKit Go.Shelf Go.Proofs.YtcgdbjojjpoegaaW.PrintWords Go.Proofs.YtcgdbjojjpoegaaW.PrintLast Go.Proofs.YtcgdbjojjpoegaaW.PrintMore Go.Proofs.YtcgdbjojjpoegaaM Go.Proofs.YtcgdbjojjpoegaaR
set_option linter.unusedVariables false
set_option linter.unusedSimpArgs false

/-- a step of a search is one by an amount that is not whole, but for one -/
def StepOK (den : Int) (am : List Am) (i : Int) (x : S117) : Prop := ∃ k, k < am.length ∧ x = stepOf x.f1 k (amAt am k) ∧ isStep den x.f1 i k (amAt am k) = true
theorem stepOf_f1 {den from_ but : Int} {k : Nat} {a : Am} (h : isStep den from_ but k a = true) : (stepOf from_ k a).f1 = from_ := by
  unfold isStep at h
  simp only [Bool.and_eq_true, beq_iff_eq] at h
  exact h.2.1
theorem stepsTo_ok {den from_ but : Int} {am : List Am} : ∀ (n : Nat), n ≤ am.length → ∀ x ∈ stepsTo den from_ but am n, StepOK den am but x ∧ x.f1 = from_
  | 0, _, x, hx => by simp [stepsTo] at hx
  | n + 1, hn, x, hx => by
    rw [stepsTo, List.mem_append] at hx
    rcases hx with hx | hx
    · exact stepsTo_ok n (by omega) x hx
    · split at hx
      · rename_i h
        simp only [List.mem_singleton] at hx
        have h1 := stepOf_f1 h
        rw [← hx] at h1
        exact ⟨⟨n, (by omega), (by rw [h1]; exact hx), (by rw [h1]; exact h)⟩, h1⟩
      · simp at hx
def ByOK (den : Int) (am : List Am) (i : Int) (by_ : Int → Option S117) : Prop := ∀ q x, by_ q = some x → StepOK den am i x ∧ x.f2 = q
theorem bodyR_by {den : Int} {am : List Am} {i goal : Int} {s : RSt × Bool} {x : S117} (h : ByOK den am i s.1.by_) (hx : StepOK den am i x) : ByOK den am i (bodyR goal s x).1.by_ := by
  have key : ByOK den am i (fun k => if k = x.f2 then some x else s.1.by_ k) := by
    intro q y hy
    simp only at hy
    split at hy
    · rename_i hq
      injection hy with hy
      subst hy
      exact ⟨hx, hq.symm⟩
    · exact h q y hy
  unfold bodyR
  split
  · exact h
  split
  · exact h
  split
  · exact key
  exact key
theorem foldR_by {den : Int} {am : List Am} {i goal : Int} : ∀ (l : List S117) (s : RSt × Bool), ByOK den am i s.1.by_ → (∀ x ∈ l, StepOK den am i x) → ByOK den am i (l.foldl (bodyR goal) s).1.by_
  | [], s, h, _ => h
  | x :: l, s, h, hl => by
    rw [List.foldl_cons]
    exact foldR_by l _ (bodyR_by h (hl x (by simp))) (fun y hy => hl y (by simp [hy]))
theorem turnR_by {den : Int} {am : List Am} {i goal : Int} {s : RSt} (h : ByOK den am i s.by_) : ByOK den am i (turnR den am i goal s).1.by_ :=
  foldR_by _ _ h (fun x hx => (stepsTo_ok am.length (Nat.le_refl _) x hx).1)
theorem searchR_by {den : Int} {am : List Am} {i goal : Int} : ∀ (k : Nat) (s s2 : RSt), ByOK den am i s.by_ → searchR den am i goal k s = some s2 → ByOK den am i s2.by_
  | 0, s, s2, h, hs => by
    rw [searchR] at hs
    split at hs
    · injection hs with hs; exact hs ▸ h
    · cases hs
  | k + 1, s, s2, h, hs => by
    rw [searchR] at hs
    split at hs
    · injection hs with hs; exact hs ▸ h
    · split at hs
      · injection hs with hs; exact hs ▸ turnR_by h
      · exact searchR_by k _ s2 (turnR_by h) hs
theorem backR_ok {den : Int} {am : List Am} {i home : Int} : ∀ (k : Nat) (by_ : Int → Option S117) (at_ : Int) (out r : List S117), ByOK den am i by_ → (∀ x ∈ out, StepOK den am i x) → backR home k by_ at_ out = some r → ∀ x ∈ r, StepOK den am i x
  | 0, by_, at_, out, r, h, ho, hs => by
    rw [backR] at hs
    split at hs
    · injection hs with hs; exact hs ▸ ho
    · cases hs
  | k + 1, by_, at_, out, r, h, ho, hs => by
    rw [backR] at hs
    split at hs
    · injection hs with hs; exact hs ▸ ho
    · split at hs
      · injection hs with hs; subst hs; simp
      · rename_i hz
        refine backR_ok k _ _ _ r ?_ ?_ hs
        · intro q x hx
          simp only at hx
          split at hx
          · cases hx
          · exact h q x hx
        · intro x hx
          rw [List.mem_append, List.mem_singleton] at hx
          rcases hx with hx | hx
          · exact ho x hx
          · cases hb : by_ at_ with
            | none => rw [hb] at hz; exact absurd rfl hz
            | some y =>
              rw [hb] at hx
              simp only [Option.getD_some] at hx
              exact hx ▸ (h at_ y hb).1
theorem roundR_ok {den : Int} {am : List Am} {i : Nat} {r : List S117} (h : roundR den am i = some r) : ∀ x ∈ r, StepOK den am i x := by
  unfold roundR at h
  cases hs : searchR den am (i : Int) (amAt am i).fr 20 (startR (amAt am i).tt) with
  | none => rw [hs] at h; cases h
  | some s => ?_
  rw [hs] at h
  exact backR_ok 20 s.by_ _ [] r (searchR_by 20 _ s (fun q x hx => by cases hx) hs) (by simp) h
theorem backR_len {home : Int} : ∀ (k : Nat) (by_ : Int → Option S117) (at_ : Int) (out r : List S117), backR home k by_ at_ out = some r → r.length ≤ out.length + k
  | 0, by_, at_, out, r, hs => by
    rw [backR] at hs
    split at hs
    · injection hs with hs; subst hs; omega
    · cases hs
  | k + 1, by_, at_, out, r, hs => by
    rw [backR] at hs
    split at hs
    · injection hs with hs; subst hs; omega
    · split at hs
      · injection hs with hs; subst hs; simp
      · have := backR_len k _ _ _ r hs
        rw [List.length_append, List.length_singleton] at this
        omega
theorem roundR_len {den : Int} {am : List Am} {i : Nat} {r : List S117} (h : roundR den am i = some r) : r.length ≤ 20 := by
  unfold roundR at h
  cases hs : searchR den am (i : Int) (amAt am i).fr 20 (startR (amAt am i).tt) with
  | none => rw [hs] at h; cases h
  | some s => ?_
  rw [hs] at h
  have := backR_len 20 s.by_ _ [] r h
  simpa using this
theorem StepOK.f0 {den : Int} {am : List Am} {i : Int} {x : S117} (h : StepOK den am i x) : ∃ k, k < am.length ∧ x.f0 = (k : Int) := by
  obtain ⟨k, hk, hx, _⟩ := h
  refine ⟨k, hk, ?_⟩
  rw [hx]
  unfold stepOf
  split <;> rfl
/-! ### push, as a plain function -/
def pushStep (more : Bool) (by_ : Int) (am : List Am) (s : S117) : List Am :=
  am.set s.f0.toNat ⟨(amAt am s.f0).fr, (amAt am s.f0).tt, if growsF am more s = true then wrap64 ((amAt am s.f0).pa + by_) else wrap64 ((amAt am s.f0).pa - by_)⟩
def wayR (am : List Am) (i : Nat) (r : List S117) : List S117 := ⟨(i : Int), (amAt am i).fr, (amAt am i).tt⟩ :: r
def pushBy (den : Int) (am : List Am) (more : Bool) (way : List S117) : Int := roomT den am more (leastB (roomT den am more) way)
def pushR (den : Int) (am : List Am) (i : Nat) (more : Bool) : Option (List Am) :=
  (roundR den am i).bind fun r => if r = [] then none else some ((wayR am i r).foldl (pushStep more (pushBy den am more (wayR am i r))) am)
/-- the same places -/
def Alike (am am2 : List Am) : Prop := am2.length = am.length ∧ ∀ k, k < am.length → (amAt am2 k).fr = (amAt am k).fr ∧ (amAt am2 k).tt = (amAt am k).tt
theorem Alike.refl (am : List Am) : Alike am am := ⟨rfl, fun _ _ => ⟨rfl, rfl⟩⟩
theorem Alike.trans {a b c : List Am} (h : Alike a b) (k : Alike b c) : Alike a c := ⟨k.1.trans h.1, fun j hj => ⟨(k.2 j (by rw [h.1]; exact hj)).1.trans (h.2 j hj).1, (k.2 j (by rw [h.1]; exact hj)).2.trans (h.2 j hj).2⟩⟩
theorem amAt_set (am : List Am) (k j : Nat) (a : Am) (hk : k < am.length) : amAt (am.set k a) (j : Int) = if j = k then a else amAt am (j : Int) := by
  unfold amAt
  rw [Int.toNat_natCast, List.getD_eq_getElem?_getD, List.getElem?_set]
  by_cases e : k = j
  · subst e; simp [hk]
  rw [if_neg e, if_neg (fun h => e h.symm), List.getD_eq_getElem?_getD]
theorem pushStep_alike {more : Bool} {by_ : Int} {am : List Am} {s : S117} (k : Nat) (hk : k < am.length) (hs : s.f0 = (k : Int)) : Alike am (pushStep more by_ am s) := by
  unfold pushStep
  rw [hs, Int.toNat_natCast]
  refine ⟨(by simp), fun j hj => ?_⟩
  rw [amAt_set am k j _ hk]
  split
  · rename_i e; subst e; exact ⟨rfl, rfl⟩
  exact ⟨rfl, rfl⟩
theorem growsF_alike {am am2 : List Am} {more : Bool} {s : S117} (h : Alike am am2) (k : Nat) (hk : k < am.length) (hs : s.f0 = (k : Int)) : growsF am2 more s = growsF am more s := by
  unfold growsF
  rw [hs, (h.2 k hk).1]
theorem AmOk.alike {am am2 : List Am} (h : AmOk am) (ha : Alike am am2) : AmOk am2 := by
  intro a hm
  obtain ⟨k, hk, rfl⟩ := List.getElem_of_mem hm
  have h1 := ha.2 k (by rw [← ha.1]; exact hk)
  rw [amAt_nat am2 k hk, amAt_nat am k (by rw [← ha.1]; exact hk)] at h1
  have h2 := h _ (List.getElem_mem (show k < am.length by rw [← ha.1]; exact hk))
  rw [h1.1, h1.2]
  exact h2
end Go.Proofs.Ytcgdbjojjpoegaa.P

namespace Go.Proofs.Ytcgdbjojjpoegaa.P
open Go.RowKit Go.Shelf Go.Proofs.YtcgdbjojjpoegaaW.PrintWords Go.Proofs.YtcgdbjojjpoegaaW.PrintLast Go.Proofs.YtcgdbjojjpoegaaW.PrintMore Go.Proofs.YtcgdbjojjpoegaaM Go.Proofs.YtcgdbjojjpoegaaR
set_option linter.unusedVariables false
set_option linter.unusedSimpArgs false

/-- nothing old has turned but two blocks -/
structure G2 (w W : World) (B bA : Nat) : Prop where
  os : W.os = w.os
  tape : W.tape = w.tape
  output : W.output = w.output
  size : w.heap.size ≤ W.heap.size
  block : ∀ k, k < w.heap.size → k ≠ B → k ≠ bA → W.heap[k]? = w.heap[k]?
theorem G2.refl (w : World) (B bA : Nat) : G2 w w B bA := ⟨rfl, rfl, rfl, Nat.le_refl _, fun _ _ _ _ => rfl⟩
theorem G2.more {w W W' : World} {B bA : Nat} {row : Option Nat} (h : G2 w W B bA) (hg : W.grownBy W' row) (hr : ∀ r, row = some r → r = B ∨ r = bA ∨ w.heap.size ≤ r) : G2 w W' B bA :=
  ⟨hg.os.trans h.os, hg.tape.trans h.tape, hg.output.trans h.output, Nat.le_trans h.size hg.size, fun k hk h1 h2 => (hg.block k (Nat.lt_of_lt_of_le hk h.size) (fun e => by
    rcases hr k e.symm with h3 | h3 | h3
    · exact h1 h3
    · exact h2 h3
    · omega)).trans (h.block k hk h1 h2)⟩
theorem G2.trans {w X Y : World} {B bA : Nat} (h : G2 w X B bA) (k : G2 X Y B bA) : G2 w Y B bA :=
  ⟨k.os.trans h.os, k.tape.trans h.tape, k.output.trans h.output, Nat.le_trans h.size k.size, fun j hj h1 h2 => (k.block j (Nat.lt_of_lt_of_le hj h.size) h1 h2).trans (h.block j hj h1 h2)⟩
theorem G2.below {w W : World} {B bA n : Nat} (h : G2 w W B bA) (hn : n ≤ w.heap.size) (h1 : n ≤ B) (h2 : n ≤ bA) : Below n w W := ⟨h.os, h.tape, h.output, h.size, fun k hk => h.block k (by omega) (by omega) (by omega)⟩
/-- within push -/
structure PI (w W : World) (B base : Nat) (den : Int) (vc : Value) (bA cA : Nat) (am : List Am) (seen : List Int) (more : Bool) : Prop where
  x : Blk W w.heap.size 90 #[.pointer (some ⟨B, 0, none⟩)]
  m : Blk W (w.heap.size + 1) 4 #[.bool more]
  bk : Bk W B base den vc bA cA am seen
  fr : G2 w W B bA
  sz : w.heap.size + 2 ≤ W.heap.size
  lt : B < bA ∧ bA < w.heap.size
section
variable {w W W' : World} {B base : Nat} {den : Int} {vc : Value} {bA cA : Nat} {am : List Am} {seen : List Int} {more : Bool}
theorem PI.kept {row : Option Nat} (h : PI w W B base den vc bA cA am seen more) (hg : W.grownBy W' row) (hrow : ∀ r, row = some r → w.heap.size + 2 ≤ r) : PI w W' B base den vc bA cA am seen more := by
  have hlt := h.lt
  have ne : ∀ k, k < w.heap.size + 2 → some k ≠ row := fun k h1 e => by have := hrow k e.symm; omega
  exact ⟨h.x.kept hg (ne _ (by omega)), h.m.kept hg (ne _ (by omega)), h.bk.kept hg (ne _ (by omega)) (ne _ (by omega)), h.fr.more hg (fun r e => .inr (.inr (by have := hrow r e; omega))), Nat.le_trans h.sz hg.size, hlt⟩
theorem PI.below (h : PI w W B base den vc bA cA am seen more) (hb : Below W.heap.size W W') : PI w W' B base den vc bA cA am seen more := h.kept (grown_of_below hb none) (fun r e => by cases e)
theorem Bk.setA (h : Bk W B base den vc bA cA am seen) (k : Nat) (hk : k < am.length) (p : Int) : Bk (W.setCell ⟨bA, k * 3 + 2, none⟩ (.int .i64 p)) B base den vc bA cA (am.set k ⟨am[k].fr, am[k].tt, p⟩) seen := by
  have hlt := h.base_le
  have hlt2 := h.lt
  have e : (am.set k ⟨am[k].fr, am[k].tt, p⟩).length = am.length := List.length_set
  refine ⟨⟨?_, ?_, h.at_.len⟩, h.lt⟩
  · have := blk_far h.at_.blk (p := ⟨bA, k * 3 + 2, none⟩) (by show B ≠ bA; omega) (.int .i64 p)
    rw [e]
    exact this
  have := ownA_set h.at_.own k 2 hk (by omega) (.int .i64 p) ⟨am[k].fr, am[k].tt, p⟩ rfl
  rw [e] at this ⊢
  exact this
theorem PI.rounded {seen' : List Int} (h : PI w W B base den vc bA cA am seen more) (hg : W.grownBy W' (some B)) (hbk : Bk W' B base den vc bA cA am seen') : PI w W' B base den vc bA cA am seen' more := by
  have hlt := h.lt
  exact ⟨h.x.kept hg (by simp; omega), h.m.kept hg (by simp; omega), hbk, h.fr.more hg (fun r e => .inl (by injection e with e; exact e.symm)), Nat.le_trans h.sz hg.size, hlt⟩
theorem PI.alloc (h : PI w W B base den vc bA cA am seen more) (o : Obj) : PI w (W.alloc o) B base den vc bA cA am seen more := h.kept (World.grownBy_alloc W o none) (fun r e => by cases e)
theorem PI.set (h : PI w W B base den vc bA cA am seen more) (k : Nat) (hk : k < am.length) (p : Int) : PI w (W.setCell ⟨bA, k * 3 + 2, none⟩ (.int .i64 p)) B base den vc bA cA (am.set k ⟨am[k].fr, am[k].tt, p⟩) seen more := by
  have hlt := h.lt
  have hg := grown_set W bA (k * 3 + 2) (.int .i64 p)
  exact ⟨h.x.kept hg (by simp; omega), h.m.kept hg (by simp; omega), h.bk.setA k hk p, h.fr.more hg (fun r e => .inr (.inl (by injection e with e; exact e.symm))), Nat.le_trans h.sz hg.size, hlt⟩
end
theorem R117_inner {W : World} {base : Nat} {v : Value} {xs : List S117} (h : Kd.R k117 117 W base (fun _ => True) v xs) (hn : xs ≠ []) : ∃ g c inner, v = .slice (some ⟨g, 0, none⟩) xs.length c ∧ base ≤ g ∧ W.ownsRow base 117 3 v xs.length inner ∧ inner.length = xs.length * 3 ∧ (∀ j u, inner[j]? = some u → W.cell? ((⟨g, 0, none⟩ : Addr).add j) = some u) ∧ (∀ u ∈ inner, u.oneCell' = true) ∧ (∀ W' base', Reps (k117.M W' base' (fun _ => True)) 3 xs inner) := by
  obtain ⟨h0, inner, ho, hrep⟩ := h
  rcases ho.2 with ⟨_, hn0⟩ | ⟨g, cap, cur, rfl, hg, hh, hle, hcm, hsz, ht⟩
  · exact absurd (List.length_eq_zero_iff.1 (by first | exact hn0 | exact hn0.1)) hn
  refine ⟨g, cap, inner, rfl, hg, ho, ho.1, fun j u hu => ?_, fun u hu => ?_, fun W' base' => ⟨hrep.1, fun j p hp => m117_any p _ (hrep.2 j p hp)⟩⟩
  · have hj : j < inner.length := (List.getElem?_eq_some_iff.1 hu).1
    rw [Addr.add_lit, Nat.zero_add, blk_cell hh, ← Array.getElem?_toList]
    rw [← ht, List.getElem?_take_of_lt (by rw [← ho.1]; exact hj)] at hu
    exact hu
  obtain ⟨j, hj, rfl⟩ := List.getElem_of_mem hu
  have hj3 : j / 3 < xs.length := by have := hrep.1; rw [this] at hj; exact Nat.div_lt_of_lt_mul (by rw [Nat.mul_comm]; exact hj)
  have h1 := k117_openM (hrep.2 (j / 3) xs[j / 3] (by simp [hj3]))
  have h2 : ((inner.drop (j / 3 * k117.sz)).take k117.sz)[j % 3]? = some inner[j] := by
    show ((inner.drop (j / 3 * 3)).take 3)[j % 3]? = _
    rw [List.getElem?_take_of_lt (by omega), List.getElem?_drop]
    have : j / 3 * 3 + j % 3 = j := by omega
    rw [this]
    simp [hj]
  rw [h1] at h2
  have h3 : j % 3 = 0 ∨ j % 3 = 1 ∨ j % 3 = 2 := by omega
  rcases h3 with h3 | h3 | h3 <;> (rw [h3] at h2; simp at h2; rw [← h2]; rfl)
/-- append(one step, steps ..) -/
theorem appWay {W : World} {base b g n c : Nat} {x : S117} {r : List S117} (hb : Blk W b 117 #[.int .i64 x.f0, .int .i64 x.f1, .int .i64 x.f2]) (hbb : base ≤ b) (hr : Kd.R k117 117 W base (fun _ => True) (.slice (some ⟨g, 0, none⟩) n c) r) (hne : r ≠ []) (hl : r.length ≤ 1000000) (hbase : base ≤ W.heap.size) :
    ∃ A' c' w', (∀ ty, (Builtin.append_ #[115, 115] ty #[.slice (some ⟨b, 0, none⟩) 1 1, .slice (some ⟨g, 0, none⟩) n c]).run Try.prog W = .ok (.slice A' (x :: r).length c') w') ∧ Kd.R k117 117 w' base (fun _ => True) (.slice A' (x :: r).length c') (x :: r) ∧ W.grownBy w' (some b) := by
  obtain ⟨g', c', inner, e, hg, ho, hil, hic, hone, hrep⟩ := R117_inner hr hne
  injection e with e1 e2 e3
  injection e1 with e1
  injection e1 with e1 _ _
  subst e1 e2 e3
  obtain ⟨ti, hi, hz, hs, hby⟩ := info_parts info117
  have hmx : maxLen = 9223372036854775807 := rfl
  have hown : W.ownsRow base 117 3 (.slice (some ⟨b, 0, none⟩) 1 1) 1 [.int .i64 x.f0, .int .i64 x.f1, .int .i64 x.f2] :=
    ⟨rfl, .inr ⟨b, 1, _, rfl, hbb, hb, Nat.le_refl _, (by omega), rfl, rfl⟩⟩
  obtain ⟨v', w', h1, h2, h3, _⟩ := run_append_own (P := Try.prog) (w := W) base 115 115 117 ti _ 3 24 Try.underlying115 hi hz hs hby rfl (by decide) (.slice (some ⟨b, 0, none⟩) 1 1) 1 _ hown ⟨g, 0, none⟩ r.length c inner hil hic hone (by omega) (by omega) hbase
  obtain ⟨A', c2, rfl, _⟩ := h2.form (by omega)
  have el : (x :: r).length = 1 + r.length := by simp; omega
  refine ⟨_, c2, w', fun ty => by rw [el]; exact h1, ?_, h3⟩
  rw [el]
  refine ⟨fun _ _ => trivial, _, (by rw [el]; exact h2), ?_⟩
  exact Reps.c3 (k117_mkM _ _ _ _) (⟨hil, fun j p hp => m117_any p _ ((hrep w' base).2 j p hp)⟩)
end Go.Proofs.Ytcgdbjojjpoegaa.P

namespace Go.Proofs.Ytcgdbjojjpoegaa.P
open Go.RowKit Go.Shelf Go.Proofs.YtcgdbjojjpoegaaW.PrintWords Go.Proofs.YtcgdbjojjpoegaaW.PrintLast Go.Proofs.YtcgdbjojjpoegaaW.PrintMore Go.Proofs.YtcgdbjojjpoegaaM Go.Proofs.YtcgdbjojjpoegaaR
set_option linter.unusedVariables false
set_option linter.unusedSimpArgs false
def push70.T1 : Bool × List (List Nat × List Nat) := (true, [([], []), ([], []), ([1], [1]), ([2], [2]), ([3], [3]), ([], []), ([4, 5], [4, 5]), ([6], [6]), ([7], [7]), ([], []), ([9], [9]), ([10], [10]), ([11], [11]), ([], []), ([12, 13], [12, 13]), ([14], [14]), ([15], [15]), ([0, 8, 16], [0, 8, 16]), ([17], [17]), ([], []), ([], []), ([19, 20], [19, 20]), ([18, 21, 21], [18, 21]), ([22, 22, 0, 1, 2, 3, 4, 5, 6, 7, 8, 9, 10, 11, 12, 13, 14, 15, 16, 17, 18, 19, 20, 21, 22], [22])])
def push70.B1 : List Nat := [0, 0, 2, 6, 14, 0, 62, 126, 254, 0, 512, 1536, 3584, 0, 15872, 32256, 65024, 131071, 262143, 0, 0, 1572864, 4194303, 8388607]
theorem push70.tab1 : rtab .any (opsOf Try.f70 1) = push70.T1 := by kernel_rfl
theorem push70.bits1 : waitsOk push70.T1.2 push70.B1 = true := by kernel_rfl
def push70.T4 : Bool × List (List Nat × List Nat) := (true, [([], []), ([], []), ([1], [1]), ([], []), ([], []), ([3, 4], [3, 4]), ([0, 2, 5, 5], [0, 2, 5]), ([6, 6, 0, 1, 2, 3, 4, 5, 6], [6])])
def push70.B4 : List Nat := [0, 0, 2, 0, 0, 24, 63, 127]
theorem push70.tab4 : rtab .any (opsOf Try.f70 4) = push70.T4 := by kernel_rfl
theorem push70.bits4 : waitsOk push70.T4.2 push70.B4 = true := by kernel_rfl
def push70.T9 : Bool × List (List Nat × List Nat) := (true, [([], []), ([0], [0]), ([1], [1]), ([2], [2]), ([], []), ([4], [4]), ([3, 5], [3, 5]), ([6], [6]), ([7], [7]), ([], []), ([8, 9], [8, 9]), ([3, 5, 0, 1, 2, 3, 4, 5, 6, 7, 8, 9, 10], [3, 5]), ([11, 0, 1, 2, 3, 4, 5, 6, 7, 8, 9, 10], [11]), ([12, 10, 0, 1, 2, 3, 4, 5, 6, 7, 8, 9, 10], [10, 12])])
def push70.B9 : List Nat := [0, 1, 3, 7, 0, 16, 63, 127, 255, 0, 1023, 2047, 4095, 8191]
theorem push70.tab9 : rtab .any (opsOf Try.f70 9) = push70.T9 := by kernel_rfl
theorem push70.bits9 : waitsOk push70.T9.2 push70.B9 = true := by kernel_rfl
def push70.T10 : Bool × List (List Nat × List Nat) := (true, [([], []), ([0], [0]), ([1], [1]), ([2], [2]), ([], []), ([4], [4]), ([3, 5], [3, 5]), ([6], [6]), ([7], [7]), ([], []), ([8, 9], [8, 9]), ([3, 5, 0, 1, 2, 3, 4, 5, 6, 7, 8, 9, 10], [3, 5]), ([11, 0, 1, 2, 3, 4, 5, 6, 7, 8, 9, 10], [11]), ([12, 10, 0, 1, 2, 3, 4, 5, 6, 7, 8, 9, 10], [10, 12])])
def push70.B10 : List Nat := [0, 1, 3, 7, 0, 16, 63, 127, 255, 0, 1023, 2047, 4095, 8191]
theorem push70.tab10 : rtab .any (opsOf Try.f70 10) = push70.T10 := by kernel_rfl
theorem push70.bits10 : waitsOk push70.T10.2 push70.B10 = true := by kernel_rfl
set_option maxHeartbeats 4000000 in
set_option maxRecDepth 100000 in
theorem push_calls (B base : Nat) (den : Int) (vc : Value) (bA cA : Nat) (am : List Am) (seen : List Int) (w : World) (h : Bk w B base den vc bA cA am seen) (i : Nat) (hi : i < am.length) (hok : AmOk am) (hd : den ≠ 0) (hn : am.length ≤ 100) (more : Bool) (am2 : List Am) (hr : pushR den am i more = some am2) :
    Calls Try.prog 70 #[.pointer (some ⟨B, 0, none⟩), .int .i64 (i : Int), .bool more] w fun e w' => (∃ v, e = .returned v) ∧ ∃ seen', Bk w' B base den vc bA cA am2 seen' ∧ G2 w w' B bA := by
  obtain ⟨r, hrr, hrne, ham2⟩ : ∃ r, roundR den am i = some r ∧ r ≠ [] ∧ (wayR am i r).foldl (pushStep more (pushBy den am more (wayR am i r))) am = am2 := by
    unfold pushR at hr
    cases hq : roundR den am i with
    | none => rw [hq] at hr; cases hr
    | some r =>
      rw [hq, Option.bind_some] at hr
      split at hr
      · cases hr
      · rename_i hne
        injection hr with hr
        exact ⟨r, rfl, hne, hr⟩
  have hway : ∀ x ∈ wayR am i r, ∃ k, k < am.length ∧ x.f0 = (k : Int) := by
    intro x hx
    rcases List.mem_cons.1 hx with rfl | hx
    · exact ⟨i, hi, rfl⟩
    · exact (roundR_ok hrr x hx).f0
  have hamt := amAt_nat am i hi
  have hwe : wayR am i r = ⟨(i : Int), am[i].fr, am[i].tt⟩ :: r := by rw [wayR, hamt]
  obtain ⟨fr, efr⟩ : ∃ x, am[i].fr = x := ⟨_, rfl⟩
  obtain ⟨tt, ett⟩ : ∃ x, am[i].tt = x := ⟨_, rfl⟩
  rw [efr, ett] at hwe
  have HBA := h.base_le
  have hBlt := h.lt
  have HPI := Lib.hid (show PI w ((w.alloc (.cells #[.pointer (some ⟨B, 0, none⟩)] 90)).alloc (.cells #[.bool more] 4)) B base den vc bA cA am seen more by
    have b1 := Blk.new w #[.pointer (some ⟨B, 0, none⟩)] 90
    have b2 := Blk.new (w.alloc (.cells #[.pointer (some ⟨B, 0, none⟩)] 90)) #[.bool more] 4
    have g : w.grownBy ((w.alloc (.cells #[.pointer (some ⟨B, 0, none⟩)] 90)).alloc (.cells #[.bool more] 4)) none := (World.grownBy_alloc w _ none).trans (World.grownBy_alloc _ _ none)
    simp only [World.size_alloc] at b2
    exact ⟨b1.alloc _, b2, h.kept g (by simp) (by simp), (G2.refl w B bA).more g (fun r e => by cases e), (by simp), (by omega)⟩)
  have HRR := Lib.hid hrr
  have HNE := Lib.hid hrne
  have HAM := Lib.hid ham2
  have HWY := Lib.hid hway
  have HWE := Lib.hid hwe
  have HOK := Lib.hid hok
  clear h hr hrr hrne ham2 hway hwe hok hamt
  go_enter Try.func70, Try.ntmps70
  go_upto_region 1 with (fail)
  obtain ⟨W1, e1⟩ : ∃ W1, (w.alloc (.cells #[.pointer (some ⟨B, 0, none⟩)] 90)).alloc (.cells #[.bool more] 4) = W1 := ⟨_, rfl⟩
  rw [e1] at HPI ⊢
  clear e1
  obtain ⟨Wd, ed⟩ : ∃ Wd, W1.drew = Wd := ⟨_, rfl⟩
  have hd0 : Below W1.heap.size W1 Wd := by rw [← ed]; exact below_drew (Below.refl _ _)
  have HPd := Lib.hid (HPI.out.below hd0)
  clear hd0 HPI
  have hle := HPd.out.bk.len_le
  have hi2 : (i : Int) < (am.length : Int) := by omega
  have hlen : am.length ≤ 9223372036854775807 := by omega
  have HS := Lib.hid (fun (W : World) (s : List Int) (h : PI w W B base den vc bA cA am s more) => show W.cell? ⟨w.heap.size, 0, none⟩ = some (.pointer (some ⟨B, 0, none⟩)) ∧ W.cell? ⟨B, 2, none⟩ = some (.slice (some ⟨bA, 0, none⟩) am.length cA) ∧ W.cell? ⟨bA, i * 3, none⟩ = some (.int .i64 fr) ∧ W.cell? ⟨bA, i * 3 + 1, none⟩ = some (.int .i64 tt) from
    ⟨h.x.cell 0, h.bk.at_.c2, (by rw [← efr]; exact (h.bk.cell i hi).1), (by rw [← ett]; exact (h.bk.cell i hi).2.1)⟩)
  clear efr ett
  refine sA_ 24 (fun w' => w'.cell? ⟨w.heap.size, 0, none⟩ = some (.pointer (some ⟨B, 0, none⟩)) ∧ w'.cell? ⟨B, 2, none⟩ = some (.slice (some ⟨bA, 0, none⟩) am.length cA) ∧ w'.cell? ⟨bA, i * 3, none⟩ = some (.int .i64 fr) ∧ w'.cell? ⟨bA, i * 3 + 1, none⟩ = some (.int .i64 tt)) [] push70.tab1 push70.bits1 (by rw [ed]; exact HS.out _ _ HPd.out) (fun hHeld HT_ HW_ => ?_)
  rw [ed] at hHeld ⊢
  refine pA_ 0 (some 12) 24 1 ?_
  refine tF_ 1 (some 13) 24 3 ?_
  refine pA_ 2 (some 14) 24 7 ?_
  refine pA_ 3 (some 15) 24 15 ?_
  refine tF_ 4 (some 16) 24 31 ?_
  refine pA_ 5 (some 17) 24 63 ?_
  refine pA_ 6 (some 18) 24 127 ?_
  refine pA_ 7 (some 19) 24 255 ?_
  refine tF_ 8 (some 20) 24 511 ?_
  refine tF_ 9 (some 21) 24 1023 ?_
  refine pA_ 10 (some 22) 24 2047 ?_
  refine pA_ 11 (some 23) 24 4095 ?_
  refine tF_ 12 (some 24) 24 8191 ?_
  refine pA_ 13 (some 25) 24 16383 ?_
  refine pA_ 14 (some 26) 24 32767 ?_
  refine pA_ 15 (some 27) 24 65535 ?_
  refine tF_ 16 (some 28) 24 131071 ?_
  refine pA_ 17 (some 29) 24 262143 ?_
  refine tF_ 19 (some 31) 24 786431 ?_
  refine pA_ 20 (some 32) 24 1835007 ?_
  refine join_ (σ := Nat × Nat × Nat × List Int) 2 #[true, true, true, true, true, true, true, true, true, true, true, true, true, true, true, true, true, true, true, true, true, true, false, false] (fun s_ => [(30, .slice (some ⟨s_.1, 0, none⟩) 1 1), (33, .slice (some ⟨s_.2.1, 0, none⟩) r.length s_.2.2.1)])
    (fun s_ w' => Blk w' s_.1 117 #[.int .i64 (i : Int), .int .i64 fr, .int .i64 tt] ∧ w.heap.size + 2 ≤ s_.1 ∧ Kd.R k117 117 w' (w.heap.size + 2) (fun _ => True) (.slice (some ⟨s_.2.1, 0, none⟩) r.length s_.2.2.1) r ∧ PI w w' B base den vc bA cA am s_.2.2.2 more) ?_ ?_
  rotate_left
  · intro hCont
    refine two_ (i := 18) (j := 21) (Ni := some 30) (Nj := some 33) #[true, true, true, true, true, true, true, true, true, true, true, true, true, true, true, true, true, true, true, true, true, false, false, false] #[true, true, true, true, true, true, true, true, true, true, true, true, true, true, true, true, true, true, false, true, true, true, false, false] rfl rfl rfl rfl (two_of HT_.out (by kernel_rfl)) (by decide) (by decide) (fun K hK => ?_) (fun K hK => ?_)
    · refine event_step (by rfl) (w1 := Wd.alloc (.cells #[.int .i64 (i : Int), .int .i64 fr, .int .i64 tt] 117)) (v := .slice (some ⟨Wd.heap.size, 0, none⟩) 1 1) (by go_simp) ?_
      have P1 := HPd.out.alloc (.cells #[.int .i64 (i : Int), .int .i64 fr, .int .i64 tt] 117)
      have b1 := Blk.new Wd #[.int .i64 (i : Int), .int .i64 fr, .int .i64 tt] 117
      have hs1 : w.heap.size + 2 ≤ Wd.heap.size := HPd.out.sz
      refine hK.out _ _ (HS.out _ _ P1) (fun hHeld => ?_)
      clear hK K
      refine nA_ (some 30) ?_
      refine oA_ 21 (some 33) 24 4194303 (fun K hK => ?_)
      refine goes_ Try.func87 (by kernel_rfl) rfl #[.pointer (some ⟨B, 0, none⟩), .int .i64 (i : Int)] (by rfl) rfl rfl b11_ ?_
      refine (round_calls B base den vc bA cA am seen _ P1.bk i hi HOK.out hd hn r HRR.out).mono ?_
      rintro e W2 ⟨A', c', seen', rfl, hR, hbk, hg⟩
      refine ⟨_, rfl, ?_⟩
      have P2 := P1.rounded hg hbk
      obtain ⟨g, c2, _, e2, _⟩ := R117_inner hR HNE.out
      injection e2 with e21 e22 e23
      subst e21 e23
      refine hK.out _ _ (HS.out _ _ P2) (fun hHeld2 => ?_)
      clear hK K
      refine nA_ (some 33) ?_
      exact norm_ b28_ (hCont (Wd.heap.size, g, c', seen') _ ⟨b1.kept hg (by have := HBA.2; simp; omega), hs1, Kd.R_lower hR (by simp; omega), P2⟩)
    refine goes_ Try.func87 (by kernel_rfl) rfl #[.pointer (some ⟨B, 0, none⟩), .int .i64 (i : Int)] (by rfl) rfl rfl b11_ ?_
    have hs1 : w.heap.size + 2 ≤ Wd.heap.size := HPd.out.sz
    refine (round_calls B base den vc bA cA am seen _ HPd.out.bk i hi HOK.out hd hn r HRR.out).mono ?_
    rintro e W2 ⟨A', c', seen', rfl, hR, hbk, hg⟩
    refine ⟨_, rfl, ?_⟩
    have P2 := HPd.out.rounded hg hbk
    obtain ⟨g, c2, _, e2, _⟩ := R117_inner hR HNE.out
    injection e2 with e21 e22 e23
    subst e21 e23
    refine hK.out _ _ (HS.out _ _ P2) (fun hHeld => ?_)
    clear hK K
    refine nA_ (some 33) ?_
    refine oA_ 18 (some 30) 24 4194303 (fun K hK => ?_)
    refine event_step (by rfl) (w1 := W2.alloc (.cells #[.int .i64 (i : Int), .int .i64 fr, .int .i64 tt] 117)) (v := .slice (some ⟨W2.heap.size, 0, none⟩) 1 1) (by go_simp) ?_
    have P3 := P2.alloc (.cells #[.int .i64 (i : Int), .int .i64 fr, .int .i64 tt] 117)
    refine hK.out _ _ (HS.out _ _ P3) (fun hHeld2 => ?_)
    clear hK K
    refine nA_ (some 30) ?_
    exact norm_ b28_ (hCont (W2.heap.size, g, c', seen') _ ⟨Blk.new W2 _ 117, P2.sz, Kd.R_lower (Kd.R_below hR (box1 _ _)) hs1, P3⟩)
  rintro ⟨b, g, c', seen'⟩ W3 ⟨hb3, hbn, hR3, P3⟩
  replace hb3 : Blk W3 b 117 #[.int .i64 (i : Int), .int .i64 fr, .int .i64 tt] := hb3
  replace hbn : w.heap.size + 2 ≤ b := hbn
  replace hR3 : Kd.R k117 117 W3 (w.heap.size + 2) (fun _ => True) (.slice (some ⟨g, 0, none⟩) r.length c') r := hR3
  replace P3 : PI w W3 B base den vc bA cA am seen' more := P3
  refine norm_ (a' := ?_) ?_ ?_
  rotate_left
  · simp only [putAll, Act.put, List.setIfInBounds_toArray, List.set_cons_zero, List.set_cons_succ]
    rfl
  obtain ⟨A4, c4, W4, hap, hR4, hg4⟩ := appWay (x := ⟨(i : Int), fr, tt⟩) hb3 hbn hR3 HNE.out (by have := roundR_len HRR.out; omega) P3.sz
  have P4 := P3.kept hg4 (fun r e => by injection e with e; omega)
  refine oA_ 22 (some 34) 24 8388607 (fun K hK => ?_)
  refine append_step (by rfl) (.tmp 30) (.tmp 33) 115 rfl _ _ _ W4 rfl rfl hap ?_
  refine hK.out _ _ (HS.out _ _ P4) (fun hHeld => ?_)
  clear hK K
  refine nA_ (some 34) ?_
  refine pA_ 23 (some 6) 24 16777215 ?_
  refine dA_ ?_
  have HP4 := Lib.hid P4
  have HR4 := Lib.hid hR4
  clear hHeld HT_ HW_ hap hR4 hg4 P4 P3 hR3 hb3 hbn HPd HS ed hi2 hle hlen
  rw [← HWE.out] at HR4 ⊢
  go_upto_region 3 with (fail)
  have hs4 : w.heap.size + 2 ≤ W4.heap.size := HP4.out.sz
  have HP5 := Lib.hid (HP4.out.alloc (.cells #[.func (.func 88) #[] #[.pointer (some ⟨w.heap.size, 0, none⟩), .pointer (some ⟨w.heap.size + 1, 0, none⟩)]] 119))
  have HW5 := Lib.hid (Blk.new W4 #[.func (.func 88) #[] #[.pointer (some ⟨w.heap.size, 0, none⟩), .pointer (some ⟨w.heap.size + 1, 0, none⟩)]] 119)
  have HR5 := Lib.hid (Kd.R_below HR4.out (box1 W4 (.cells #[.func (.func 88) #[] #[.pointer (some ⟨w.heap.size, 0, none⟩), .pointer (some ⟨w.heap.size + 1, 0, none⟩)]] 119)))
  clear HP4 HR4
  generalize W4.alloc (.cells #[.func (.func 88) #[] #[.pointer (some ⟨w.heap.size, 0, none⟩), .pointer (some ⟨w.heap.size + 1, 0, none⟩)]] 119) = W5 at *
  generalize W4.heap.size = gw at *
  obtain ⟨Ar, cr, er, hlr, hCr⟩ := Kd.R_reads HR5.out
  injection er with er1 er2 er3
  subst er1 er3
  obtain ⟨way, eway⟩ : ∃ l, wayR am i r = l := ⟨_, rfl⟩
  have hwp : 0 < way.length := by rw [← eway]; simp [wayR]
  have hwe1 : way.length = r.length + 1 := by rw [← eway]; simp [wayR]
  have hwl : way.length ≤ 21 := by rw [← eway]; have := roundR_len HRR.out; simp [wayR]; omega
  rw [eway] at HAM HWY HR5 hlr hCr ⊢
  rw [← hwe1]
  clear hwe1
  clear HWE eway HRR HNE
  have HLE := Lib.hid (least89_calls 90 #[.pointer (some ⟨w.heap.size, 0, none⟩), .pointer (some ⟨gw, 0, none⟩)] (roomT den am more) A4 c4 way W5 (enters_of Try.func90 (by kernel_rfl) rfl) hCr hlr hwp (by
    intro W x hx hW
    obtain ⟨k, hk, hxk⟩ := HWY.out x hx
    rcases x with ⟨x0, x1, x2⟩
    dsimp only at hxk
    subst hxk
    exact roomT_calls (HP5.out.below hW).bk (HP5.out.below hW).x (HP5.out.below hW).m (HW5.out.below hW HW5.out.lt) hd k hk x1 x2))
  clear hlr hCr
  obtain ⟨sl, hsl⟩ : ∃ s, leastB (roomT den am more) way = s := ⟨_, rfl⟩
  obtain ⟨k8, hk8, hf8⟩ := HWY.out sl (hsl ▸ leastB_mem _ way hwp)
  have HBY := Lib.hid (show pushBy den am more way = roomT den am more sl by rw [pushBy, hsl])
  rw [hsl] at HLE
  clear hsl
  rcases sl with ⟨y0, y1, y2⟩
  dsimp only at hf8
  subst hf8
  have e17 : enc117 ⟨(k8 : Int), y1, y2⟩ = .agg #[.int .i64 (k8 : Int), .int .i64 y1, .int .i64 y2] := rfl
  rw [e17] at HLE
  clear e17
  go_upto_region 4 with (go_at_call 89; refine (HLE.out).mono ?_; rintro e W6 ⟨rfl, hb6⟩; have HB6 := Lib.hid hb6; clear hb6)
  have HB7 := Lib.hid (below_then HB6.out HB6.out.size (box1 W6 (.cells #[.int .i64 (k8 : Int), .int .i64 y1, .int .i64 y2] 117)))
  have HY7 := Lib.hid (Blk.new W6 #[.int .i64 (k8 : Int), .int .i64 y1, .int .i64 y2] 117)
  have HP7 := Lib.hid (HP5.out.below HB7.out)
  have HW7 := Lib.hid (HW5.out.below HB7.out HW5.out.lt)
  have HR7 := Lib.hid (Kd.R_below HR5.out HB7.out)
  have hg6 : w.heap.size + 2 ≤ W6.heap.size := Nat.le_trans HP5.out.sz HB6.out.size
  have hgw6 : gw < W6.heap.size := Nat.lt_of_lt_of_le HW5.out.lt HB6.out.size
  clear HB7 HB6 HP5 HW5 HR5 HLE
  generalize W6.alloc (.cells #[.int .i64 (k8 : Int), .int .i64 y1, .int .i64 y2] 117) = W7 at *
  generalize W6.heap.size = g8 at *
  obtain ⟨Wd, ed⟩ : ∃ Wd, W7.drew = Wd := ⟨_, rfl⟩
  have hd0 : Below W7.heap.size W7 Wd := by rw [← ed]; exact below_drew (Below.refl _ _)
  have HPd := Lib.hid (HP7.out.below hd0)
  have HWd := Lib.hid (HW7.out.below hd0 HW7.out.lt)
  have HYd := Lib.hid (HY7.out.below hd0 HY7.out.lt)
  have HRd := Lib.hid (Kd.R_below HR7.out hd0)
  clear hd0 HP7 HW7 HY7 HR7
  have HS := Lib.hid (fun (W : World) (h : Below Wd.heap.size Wd W) => show (W.cell? ⟨w.heap.size, 0, none⟩ = some (.pointer (some ⟨B, 0, none⟩)) ∧ W.cell? ⟨gw, 0, none⟩ = some (.func (.func 88) #[] #[.pointer (some ⟨w.heap.size, 0, none⟩), .pointer (some ⟨w.heap.size + 1, 0, none⟩)])) ∧ W.cell? ⟨g8, 0, none⟩ = some (.int .i64 (k8 : Int)) ∧ W.cell? ⟨g8, 1, none⟩ = some (.int .i64 y1) ∧ W.cell? ⟨g8, 2, none⟩ = some (.int .i64 y2) from
    ⟨⟨(HPd.out.below h).x.cell 0, (HWd.out.below h HWd.out.lt).cell 0⟩, (HYd.out.below h HYd.out.lt).cell 0, (HYd.out.below h HYd.out.lt).cell 1, (HYd.out.below h HYd.out.lt).cell 2⟩)
  have EG := enters_of (P := Try.prog) Try.func88 (by kernel_rfl) rfl
  refine sA_ 8 (fun W => (W.cell? ⟨w.heap.size, 0, none⟩ = some (.pointer (some ⟨B, 0, none⟩)) ∧ W.cell? ⟨gw, 0, none⟩ = some (.func (.func 88) #[] #[.pointer (some ⟨w.heap.size, 0, none⟩), .pointer (some ⟨w.heap.size + 1, 0, none⟩)])) ∧ W.cell? ⟨g8, 0, none⟩ = some (.int .i64 (k8 : Int)) ∧ W.cell? ⟨g8, 1, none⟩ = some (.int .i64 y1) ∧ W.cell? ⟨g8, 2, none⟩ = some (.int .i64 y2)) [] push70.tab4 push70.bits4 (by rw [ed]; exact HS.out _ (Below.refl _ _)) (fun hHeld HT_ HW_ => ?_)
  rw [ed] at hHeld ⊢
  refine pA_ 1 (some 40) 8 2 ?_
  refine tD_ 0 (some 39) 8 3 ?_
  refine tD_ 2 (some 41) 8 7 ?_
  refine tD_ 3 (some 42) 8 15 ?_
  refine tD_ 4 (some 43) 8 31 ?_
  refine oA_ 5 (some 44) 8 63 (fun K hK => ?_)
  refine goesV_ EG #[.agg #[.int .i64 (k8 : Int), .int .i64 y1, .int .i64 y2]] (by rfl) rfl rfl (by rfl) b11_ ?_
  refine (grows_calls HPd.out.bk HPd.out.x HPd.out.m k8 hk8 y1 y2).mono ?_
  rintro e W2 ⟨rfl, hb1⟩
  refine ⟨_, rfl, ?_⟩
  refine hK.out _ _ (HS.out _ hb1) (fun hHeld => ?_)
  clear hK K
  refine nA_ (some 44) ?_
  refine oA_ 6 (some 45) 8 127 (fun K hK => ?_)
  refine goes_ Try.func91 (by kernel_rfl) rfl #[.pointer (some ⟨B, 0, none⟩), .int .i64 (k8 : Int), .bool (growsF am more ⟨(k8 : Int), y1, y2⟩)] (by rfl) rfl rfl b11_ ?_
  refine (room_calls (HPd.out.below hb1).bk k8 hk8 hd (growsF am more ⟨(k8 : Int), y1, y2⟩)).mono ?_
  rintro e W3 ⟨rfl, hdr⟩
  have hb2 := below_then hb1 hb1.size (drawn_below hdr)
  refine ⟨_, rfl, ?_⟩
  refine hK.out _ _ (HS.out _ hb2) (fun hHeld => ?_)
  clear hK K
  refine nA_ (some 45) ?_
  refine pA_ 7 (some 9) 8 255 ?_
  refine dA_ ?_
  have HP8 := Lib.hid (HPd.out.below hb2)
  have HW8 := Lib.hid (HWd.out.below hb2 HWd.out.lt)
  have HR8 := Lib.hid (Kd.R_below HRd.out hb2)
  have hbyv : roomF den am[k8] (growsF am more ⟨(k8 : Int), y1, y2⟩) = pushBy den am more way := by rw [HBY.out, roomT, amAt_nat am k8 hk8]
  rw [hbyv]
  obtain ⟨by_, eby⟩ : ∃ x, pushBy den am more way = x := ⟨_, rfl⟩
  rw [eby] at HAM ⊢
  clear hHeld HT_ HW_ hb1 hb2 hdr HS ed HPd HWd HYd HRd hbyv eby HBY EG hk8
  have hgn : w.heap.size + 2 ≤ gw := hs4
  clear HOK
  go_wp2_with fail
  go_loopg [11, 48] way.length (fun kq v11 v48 w' => ∃ (k : Nat) (amk : List Am) (sn : List Int), v48 = .int .i64 k ∧ Aside0 (k + kq = way.length) ∧ Aside0 (amk = (way.take k).foldl (pushStep more by_) am) ∧ Aside0 (Alike am amk) ∧ Aside0 (PI w w' B base den vc bA cA amk sn more) ∧ Aside0 (Blk w' gw 119 #[.func (.func 88) #[] #[.pointer (some ⟨w.heap.size, 0, none⟩), .pointer (some ⟨w.heap.size + 1, 0, none⟩)]]) ∧ Aside0 (Kd.R k117 117 w' (w.heap.size + 2) (fun _ => True) (.slice A4 way.length c4) way))
  case atStart => exact ⟨0, am, _, rfl, ⟨(by omega)⟩, ⟨rfl⟩, ⟨Alike.refl am⟩, ⟨HP8.out⟩, ⟨HW8.out⟩, ⟨HR8.out⟩⟩
  clear HP8 HW8 HR8
  obtain ⟨k, amk, sn, rfl, HI, HST, HAL, HP, HW, HR⟩ := hrel
  cases gk with
  | zero => as_aux_lemma =>
    have hk' : k = way.length := by have := HI.out; omega
    have hlt : decide (k < way.length) = false := by simp [hk']
    have hlt2 : decide ((k : Int) < (way.length : Int)) = false := decide_eq_false (by omega)
    have HE := Lib.hid (show amk = am2 by rw [HST.out, hk', List.take_length]; exact HAM.out)
    clear hk'
    go_wp2
    go_end0
    exact ⟨⟨_, rfl⟩, sn, (by rw [← HE.out]; exact HP.out.bk), HP.out.fr⟩
  | succ k1 => as_aux_lemma =>
    have hk' : k < way.length := by have := HI.out; omega
    have hlt : decide (k < way.length) = true := by simp [hk']
    have hlt2 : decide ((k : Int) < (way.length : Int)) = true := decide_eq_true (by omega)
    have hk100 : (k : Int) ≤ 100 := by omega
    obtain ⟨Ar, cr, er, hlr, hCr⟩ := Kd.R_reads HR.out
    injection er with er1 er2 er3
    subst er1 er3
    obtain ⟨ad, eA, hc0, hc1, hc2⟩ := at_T117 hCr (k : Int) (by omega) (by omega)
    subst eA
    rw [Int.toNat_natCast, rd_T117_nat way k hk'] at hc0
    rw [rd_T117_nat way k hk'] at hc1 hc2
    rw [Int.toNat_natCast] at hc1 hc2
    obtain ⟨kk, hkk, hkx⟩ := HWY.out _ (List.getElem_mem hk')
    rw [← HAL.out.1] at hkk
    replace HST := Lib.hid (show pushStep more by_ amk way[k] = (way.take (k + 1)).foldl (pushStep more by_) am by rw [List.take_add_one, List.foldl_append, ← HST.out]; simp [hk'])
    generalize way[k] = x at *
    rcases x with ⟨x0, x1, x2⟩
    dsimp only at hkx hc0 hc1 hc2
    subst hkx
    have hblk := World.block_lt_of_cell? wr _ hc0
    go_upto_region 8 with (fail)
    have HB1 := Lib.hid (box1 wr (.cells #[.int .i64 (kk : Int), .int .i64 x1, .int .i64 x2] 117))
    have HX1 := Lib.hid (Blk.new wr #[.int .i64 (kk : Int), .int .i64 x1, .int .i64 x2] 117)
    have HP1 := Lib.hid (HP.out.below HB1.out)
    have HW1 := Lib.hid (HW.out.below HB1.out HW.out.lt)
    have HR1 := Lib.hid (Kd.R_below HR.out HB1.out)
    have hg11 : w.heap.size + 2 ≤ wr.heap.size := HP.out.sz
    clear HB1 HP HW HR hc0 hc1 hc2 hblk hCr hlr
    generalize wr.alloc (.cells #[.int .i64 (kk : Int), .int .i64 x1, .int .i64 x2] 117) = W1 at *
    generalize wr.heap.size = g11 at *
    have z0 : W1.cell? ⟨g11, 0, none⟩ = some (.int .i64 (kk : Int)) := HX1.out.cell 0
    have z1 : W1.cell? ⟨g11, 1, none⟩ = some (.int .i64 x1) := HX1.out.cell 1
    have z2 : W1.cell? ⟨g11, 2, none⟩ = some (.int .i64 x2) := HX1.out.cell 2
    have zw : W1.cell? ⟨gw, 0, none⟩ = some (.func (.func 88) #[] #[.pointer (some ⟨w.heap.size, 0, none⟩), .pointer (some ⟨w.heap.size + 1, 0, none⟩)]) := HW1.out.cell 0
    have HGR := Lib.hid (grows_calls HP1.out.bk HP1.out.x HP1.out.m kk hkk x1 x2)
    cases hgb : growsF amk more ⟨(kk : Int), x1, x2⟩ with
    | true =>
      rw [hgb] at HGR
      have HBL := Lib.hid (show pushStep more by_ amk ⟨(kk : Int), x1, x2⟩ = amk.set kk ⟨amk[kk].fr, amk[kk].tt, wrap64 (amk[kk].pa + by_)⟩ by
        rw [pushStep, hgb, if_pos rfl, amAt_nat amk kk hkk, Int.toNat_natCast])
      obtain ⟨nv, hnv⟩ : ∃ x, wrap64 (amk[kk].pa + by_) = x := ⟨_, rfl⟩
      rw [hnv] at HBL
      clear hgb
      go_upto_region 9 with (go_at_call 88; refine (HGR.out).mono ?_; rintro e W2 ⟨rfl, hb2⟩; have HB2 := Lib.hid hb2; clear hb2)
      have HP2 := Lib.hid (HP1.out.below HB2.out)
      have HW2 := Lib.hid (HW1.out.below HB2.out HW1.out.lt)
      have HX2 := Lib.hid (HX1.out.below HB2.out HX1.out.lt)
      have HR2 := Lib.hid (Kd.R_below HR1.out HB2.out)
      clear HP1 HW1 HX1 HR1 HB2 HGR z0 z1 z2 zw
      obtain ⟨Wd, ed⟩ : ∃ Wd, W2.drew = Wd := ⟨_, rfl⟩
      have hd0 : Below W2.heap.size W2 Wd := by rw [← ed]; exact below_drew (Below.refl _ _)
      have HPd := Lib.hid (HP2.out.below hd0)
      have HWd := Lib.hid (HW2.out.below hd0 HW2.out.lt)
      have HXd := Lib.hid (HX2.out.below hd0 HX2.out.lt)
      have HRd := Lib.hid (Kd.R_below HR2.out hd0)
      clear hd0 HP2 HW2 HX2 HR2
      have z0 : Wd.cell? ⟨w.heap.size, 0, none⟩ = some (.pointer (some ⟨B, 0, none⟩)) := HPd.out.x.cell 0
      have z1 : Wd.cell? ⟨B, 2, none⟩ = some (.slice (some ⟨bA, 0, none⟩) amk.length cA) := HPd.out.bk.at_.c2
      have z2 : Wd.cell? ⟨g11, 0, none⟩ = some (.int .i64 (kk : Int)) := HXd.out.cell 0
      have z3 := (HPd.out.bk.cell kk hkk).2.2
      have zf := HPd.out.bk.fzA kk hkk
      have hle := HPd.out.bk.len_le
      have hlen : amk.length ≤ 9223372036854775807 := by omega
      have hkk2 : (kk : Int) < (amk.length : Int) := by omega
      obtain ⟨pa, epa⟩ : ∃ x, amk[kk].pa = x := ⟨_, rfl⟩
      rw [epa] at z3 hnv
      clear epa
      refine sA_ 14 (fun w' => w'.cell? ⟨w.heap.size, 0, none⟩ = some (.pointer (some ⟨B, 0, none⟩)) ∧ w'.cell? ⟨B, 2, none⟩ = some (.slice (some ⟨bA, 0, none⟩) amk.length cA) ∧ w'.cell? ⟨g11, 0, none⟩ = some (.int .i64 (kk : Int)) ∧ w'.cell? ⟨bA, kk * 3 + 2, none⟩ = some (.int .i64 pa)) [13] push70.tab9 push70.bits9 (by rw [ed]; exact ⟨z0, z1, z2, z3⟩) (fun hHeld HT_ HW_ => ?_)
      rw [ed] at hHeld ⊢
      refine tF_ 0 (some 55) 14 1 ?_
      refine pA_ 1 (some 56) 14 3 ?_
      refine pA_ 2 (some 57) 14 7 ?_
      refine tF_ 3 (some 58) 14 15 ?_
      refine pA_ 4 (some 59) 14 31 ?_
      refine tF_ 5 (some 60) 14 63 ?_
      refine pA_ 6 (some 61) 14 127 ?_
      refine pA_ 7 (some 62) 14 255 ?_
      refine tF_ 8 (some 63) 14 511 ?_
      refine pA_ 9 (some 64) 14 1023 ?_
      refine pA_ 10 (some 65) 14 2047 ?_
      refine pA_ 11 (some 66) 14 4095 ?_
      refine pA_ 12 (some 67) 14 8191 ?_
      refine oL_ 13 none 14 16383 (fun K hK => ?_)
      refine skip_ (w1 := Wd.setCell ⟨bA, kk * 3 + 2, none⟩ (.int .i64 nv)) (by rfl) rfl ?_ ?_
      · rw [← hnv]
        go_simp
      refine hK.out _ _ ?_
      clear hK K
      refine dA_ ?_
      have hgA := grown_set Wd bA (kk * 3 + 2) (.int .i64 nv)
      have HP3 := Lib.hid (HPd.out.set kk hkk nv)
      have hltA := HPd.out.lt
      have HW3 := Lib.hid (HWd.out.kept hgA (by simp; omega))
      have HR3 := Lib.hid (R117_kept HRd.out hgA (fun r e => .inl (by injection e with e; omega)))
      clear hHeld HT_ HW_ z0 z1 z2 z3 zf hle hlen hkk2 ed hgA HPd HWd HXd HRd hnv
      go_wp2
      go_roundg k1
      case rel => exact ⟨k + 1, _, sn, (by go_num), ⟨b21_⟩, ⟨(by rw [← HBL.out, HST.out])⟩, ⟨HAL.out.trans (by rw [← HBL.out]; exact pushStep_alike kk hkk rfl)⟩, ⟨HP3.out⟩, ⟨HW3.out⟩, ⟨HR3.out⟩⟩
      case measure => omega
    | false => ?_
    rw [hgb] at HGR
    have HBL := Lib.hid (show pushStep more by_ amk ⟨(kk : Int), x1, x2⟩ = amk.set kk ⟨amk[kk].fr, amk[kk].tt, wrap64 (amk[kk].pa - by_)⟩ by
      rw [pushStep, hgb, if_neg (by simp), amAt_nat amk kk hkk, Int.toNat_natCast])
    obtain ⟨nv, hnv⟩ : ∃ x, wrap64 (amk[kk].pa - by_) = x := ⟨_, rfl⟩
    rw [hnv] at HBL
    clear hgb
    go_upto_region 10 with (go_at_call 88; refine (HGR.out).mono ?_; rintro e W2 ⟨rfl, hb2⟩; have HB2 := Lib.hid hb2; clear hb2)
    have HP2 := Lib.hid (HP1.out.below HB2.out)
    have HW2 := Lib.hid (HW1.out.below HB2.out HW1.out.lt)
    have HX2 := Lib.hid (HX1.out.below HB2.out HX1.out.lt)
    have HR2 := Lib.hid (Kd.R_below HR1.out HB2.out)
    clear HP1 HW1 HX1 HR1 HB2 HGR z0 z1 z2 zw
    obtain ⟨Wd, ed⟩ : ∃ Wd, W2.drew = Wd := ⟨_, rfl⟩
    have hd0 : Below W2.heap.size W2 Wd := by rw [← ed]; exact below_drew (Below.refl _ _)
    have HPd := Lib.hid (HP2.out.below hd0)
    have HWd := Lib.hid (HW2.out.below hd0 HW2.out.lt)
    have HXd := Lib.hid (HX2.out.below hd0 HX2.out.lt)
    have HRd := Lib.hid (Kd.R_below HR2.out hd0)
    clear hd0 HP2 HW2 HX2 HR2
    have z0 : Wd.cell? ⟨w.heap.size, 0, none⟩ = some (.pointer (some ⟨B, 0, none⟩)) := HPd.out.x.cell 0
    have z1 : Wd.cell? ⟨B, 2, none⟩ = some (.slice (some ⟨bA, 0, none⟩) amk.length cA) := HPd.out.bk.at_.c2
    have z2 : Wd.cell? ⟨g11, 0, none⟩ = some (.int .i64 (kk : Int)) := HXd.out.cell 0
    have z3 := (HPd.out.bk.cell kk hkk).2.2
    have zf := HPd.out.bk.fzA kk hkk
    have hle := HPd.out.bk.len_le
    have hlen : amk.length ≤ 9223372036854775807 := by omega
    have hkk2 : (kk : Int) < (amk.length : Int) := by omega
    obtain ⟨pa, epa⟩ : ∃ x, amk[kk].pa = x := ⟨_, rfl⟩
    rw [epa] at z3 hnv
    clear epa
    refine sA_ 14 (fun w' => w'.cell? ⟨w.heap.size, 0, none⟩ = some (.pointer (some ⟨B, 0, none⟩)) ∧ w'.cell? ⟨B, 2, none⟩ = some (.slice (some ⟨bA, 0, none⟩) amk.length cA) ∧ w'.cell? ⟨g11, 0, none⟩ = some (.int .i64 (kk : Int)) ∧ w'.cell? ⟨bA, kk * 3 + 2, none⟩ = some (.int .i64 pa)) [13] push70.tab10 push70.bits10 (by rw [ed]; exact ⟨z0, z1, z2, z3⟩) (fun hHeld HT_ HW_ => ?_)
    rw [ed] at hHeld ⊢
    refine tF_ 0 (some 68) 14 1 ?_
    refine pA_ 1 (some 69) 14 3 ?_
    refine pA_ 2 (some 70) 14 7 ?_
    refine tF_ 3 (some 71) 14 15 ?_
    refine pA_ 4 (some 72) 14 31 ?_
    refine tF_ 5 (some 73) 14 63 ?_
    refine pA_ 6 (some 74) 14 127 ?_
    refine pA_ 7 (some 75) 14 255 ?_
    refine tF_ 8 (some 76) 14 511 ?_
    refine pA_ 9 (some 77) 14 1023 ?_
    refine pA_ 10 (some 78) 14 2047 ?_
    refine pA_ 11 (some 79) 14 4095 ?_
    refine pA_ 12 (some 80) 14 8191 ?_
    refine oL_ 13 none 14 16383 (fun K hK => ?_)
    refine skip_ (w1 := Wd.setCell ⟨bA, kk * 3 + 2, none⟩ (.int .i64 nv)) (by rfl) rfl ?_ ?_
    · rw [← hnv]
      go_simp
    refine hK.out _ _ ?_
    clear hK K
    refine dA_ ?_
    have hgA := grown_set Wd bA (kk * 3 + 2) (.int .i64 nv)
    have HP3 := Lib.hid (HPd.out.set kk hkk nv)
    have hltA := HPd.out.lt
    have HW3 := Lib.hid (HWd.out.kept hgA (by simp; omega))
    have HR3 := Lib.hid (R117_kept HRd.out hgA (fun r e => .inl (by injection e with e; omega)))
    clear hHeld HT_ HW_ z0 z1 z2 z3 zf hle hlen hkk2 ed hgA HPd HWd HXd HRd hnv
    go_wp2
    go_roundg k1
    case rel => exact ⟨k + 1, _, sn, (by go_num), ⟨b21_⟩, ⟨(by rw [← HBL.out, HST.out])⟩, ⟨HAL.out.trans (by rw [← HBL.out]; exact pushStep_alike kk hkk rfl)⟩, ⟨HP3.out⟩, ⟨HW3.out⟩, ⟨HR3.out⟩⟩
    case measure => omega
end Go.Proofs.Ytcgdbjojjpoegaa.P

namespace Go.Proofs.Ytcgdbjojjpoegaa.P
open Go.RowKit Go.Shelf Go.Proofs.YtcgdbjojjpoegaaW.PrintWords Go.Proofs.YtcgdbjojjpoegaaW.PrintLast Go.Proofs.YtcgdbjojjpoegaaW.PrintMore Go.Proofs.YtcgdbjojjpoegaaM Go.Proofs.YtcgdbjojjpoegaaR
set_option linter.unusedVariables false
set_option linter.unusedSimpArgs false

theorem all_rangeI : ∀ (xs ys : List Int), xs.length = ys.length → ((List.range xs.length).all fun i => xs.getD i 0 == ys.getD i 0) = (xs == ys)
  | [], [], _ => rfl
  | x :: xs, y :: ys, h => by
    have ih := all_rangeI xs ys (by simpa using h)
    rw [List.length_cons, List.range_succ_eq_map, List.all_cons, List.all_map]
    simp only [List.getD_cons_zero, Function.comp_def, List.getD_cons_succ, ih]
    simp [List.cons_beq_cons]
  | [], _ :: _, h => by simp at h
  | _ :: _, [], h => by simp at h
def arr (xs : List Int) : Array Value := (xs.map (Value.int .i64)).toArray
theorem part3 (xs : List Int) (i : Nat) (hi : i < xs.length) (w : World) : (part 3 (arr xs) (i * Try.prog.cellsOf 3)).run Try.prog w = .ok (.int .i64 (xs.getD i 0)) w := by
  have hc : Try.prog.cellsOf 3 = 1 := by kernel_rfl
  rw [hc]
  simp [part, isAgg, run_underlying Try.underlying3, arr, List.getD, hi]
theorem eq94 (xs ys : List Int) (hx : xs.length = 14) (hy : ys.length = 14) (w : World) : (Op.equal 94 (.agg (arr xs)) (.agg (arr ys))).run Try.prog w = .ok (xs == ys) w := by
  obtain ⟨i, hi, _⟩ := info_parts info3r
  unfold Op.equal Op.maxDepth
  rw [run_equalIn_array w _ _ _ Try.underlying94 hi, ← all_rangeI xs ys (by omega), hx]
  have hl : ∀ i ∈ List.range 14, i < 14 := fun i hi => List.mem_range.1 hi
  generalize List.range 14 = is at hl ⊢
  induction is with
  | nil => simp [Op.eqItems]
  | cons j is ih =>
    have hj := hl j (by simp)
    have he : ∀ d, (Op.equalIn (d + 1) 3 (.int .i64 (xs.getD j 0)) (.int .i64 (ys.getD j 0))).run Try.prog w = .ok (xs.getD j 0 == ys.getD j 0) w := fun d => by
      simp [Op.equalIn, run_underlying Try.underlying3]
    simp only [Op.eqItems, Sem.run_bind, part3 xs j (by omega), part3 ys j (by omega), he, Result.andThen_ok, List.all_cons]
    cases xs.getD j 0 == ys.getD j 0
    · simp
    simpa using ih (fun i hi => hl i (by simp [hi]))
theorem guard94 : Try.prog.eqGuardType Try.prog.depth 94 = false := by kernel_rfl
theorem info94 : (Try.prog.info? 94).map (·.size) = some 14 := by kernel_rfl
theorem eql_arr {ops : Array Oper} {rest : List Oper} {o : Oper} {a : Act} {W : World} {Q : Exit → Act → World → Prop} (hgd : o.guard = none) (x y : Tmp) (ty : TypeId) (ho : o.op = .binOp .eql 94 (.tmp x) (.tmp y) ty) (xs ys : List Int) (hx : a.eval (.tmp x) = .agg (arr xs)) (hy : a.eval (.tmp y) = .agg (arr ys))
    (hl : xs.length = 14) (hl2 : ys.length = 14) (h : wpList Try.prog ops Q rest (a.put o.dst (.bool (xs == ys))) W) : wpList Try.prog ops Q (o :: rest) a W := by
  refine wpList_plain hgd fun K hK => ?_
  unfold Oper.wp execOp
  have he := eq94 xs ys hl hl2 W
  have hg := guard94
  simp [ho, hx, hy, eqGuard, binOp, he, hg, Sem.run_bind, Result.andThen]
  exact hK _ _ h
theorem load_arr {ops : Array Oper} {rest : List Oper} {o : Oper} {a : Act} {W : World} {Q : Exit → Act → World → Prop} (hgd : o.guard = none) (x : Operand) (ho : o.op = .load 94 x) (b : Nat) (xs : List Int) (hx : a.eval x = .pointer (some ⟨b, 0, none⟩))
    (hb : Blk W b 94 (arr xs)) (hl : xs.length = 14) (h : wpList Try.prog ops Q rest (a.put o.dst (.agg (arr xs))) W) : wpList Try.prog ops Q (o :: rest) a W :=
  wpList_load_row hgd 94 x ho b hx 94 (arr xs) (0, 0) _ hb Try.underlying94 rfl (by rw [info94]; simp [arr, hl]) h
theorem arr_set (xs : List Int) (v : Nat) (t : Int) : (arr xs).setIfInBounds v (.int .i64 t) = arr (xs.set v t) := by simp [arr, List.map_set]
theorem arr_cell {W : World} {b : Nat} {xs : List Int} (h : Blk W b 94 (arr xs)) (v : Nat) (hv : v < xs.length) : W.cell? ⟨b, v, none⟩ = some (.int .i64 (xs.getD v 0)) := by
  rw [h.cell]
  simp [arr, List.getD, hv]
/-! ### settle, as a plain function -/
def countsF (den : Int) (am : List Am) : Nat → List Int
  | 0 => List.replicate 14 0
  | k + 1 => if brk den (amAt am k) = true then (countsF den am k).set (amAt am k).fr.toNat ((countsF den am k).getD (amAt am k).fr.toNat 0 + 1) else countsF den am k
def lastF (den : Int) (am : List Am) : Nat → Option Nat
  | 0 => none
  | k + 1 => if brk den (amAt am k) = true then some k else lastF den am k
def lastV (o : Option Nat) : Int := match o with | none => -1 | some i => (i : Int)
def settleR (den : Int) : Nat → List Am → Option (List Am)
  | 0, am => match lastF den am am.length with | none => some am | some _ => none
  | k + 1, am => match lastF den am am.length with | none => some am | some i => (pushR den am i true).bind (settleR den k)
theorem rep0 (n j : Nat) : (List.replicate n (0 : Int)).getD j 0 = 0 := by
  rw [List.getD_eq_getElem?_getD, List.getElem?_replicate]
  split <;> rfl
theorem counts_len (den : Int) (am : List Am) : ∀ k, (countsF den am k).length = 14
  | 0 => rfl
  | k + 1 => by
    rw [countsF]
    split
    · rw [List.length_set, counts_len den am k]
    · exact counts_len den am k
theorem counts_range (den : Int) (am : List Am) : ∀ k j, 0 ≤ (countsF den am k).getD j 0 ∧ (countsF den am k).getD j 0 ≤ k
  | 0, j => by
    rw [countsF]
    rw [rep0]
    omega
  | k + 1, j => by
    have ih := counts_range den am k
    rw [countsF]
    split
    · by_cases e : (amAt am k).fr.toNat = j
      · by_cases hj : j < 14
        · rw [List.getD_eq_getElem?_getD, List.getElem?_set, if_pos e, if_pos (by rw [counts_len]; omega)]
          have := ih (amAt am k).fr.toNat
          simp only [Option.getD_some]
          omega
        · rw [List.getD_eq_getElem?_getD, List.getElem?_eq_none (by rw [List.length_set, counts_len]; omega)]
          simp; omega
      · rw [List.getD_eq_getElem?_getD, List.getElem?_set_ne e, ← List.getD_eq_getElem?_getD]
        have := ih j
        omega
    · have := ih j
      omega
theorem counts_none (den : Int) (am : List Am) : ∀ k, lastF den am k = none → countsF den am k = List.replicate 14 0
  | 0, _ => rfl
  | k + 1, h => by
    rw [lastF] at h
    rw [countsF]
    split
    · rename_i hb; rw [if_pos hb] at h; cases h
    · rename_i hb; rw [if_neg hb] at h; exact counts_none den am k h
theorem counts_some {den : Int} {am : List Am} (hok : AmOk am) : ∀ k i, k ≤ am.length → lastF den am k = some i → ∃ j, j < 14 ∧ 0 < (countsF den am k).getD j 0
  | 0, i, _, h => by rw [lastF] at h; cases h
  | k + 1, i, hk, h => by
    rw [lastF] at h
    rw [countsF]
    by_cases hb : brk den (amAt am k) = true
    · rw [if_pos hb]
      have h1 := hok _ (List.getElem_mem (show k < am.length by omega))
      rw [← amAt_nat am k (by omega)] at h1
      refine ⟨(amAt am k).fr.toNat, (by omega), ?_⟩
      rw [List.getD_eq_getElem?_getD, List.getElem?_set_self (by rw [counts_len]; omega), Option.getD_some]
      have := (counts_range den am k (amAt am k).fr.toNat).1
      omega
    · rw [if_neg hb] at h ⊢
      exact counts_some hok k i (by omega) h
theorem counts_zero {den : Int} {am : List Am} (hok : AmOk am) : (countsF den am am.length == List.replicate 14 0) = (lastF den am am.length).isNone := by
  cases h : lastF den am am.length with
  | none => rw [counts_none den am _ h]; simp
  | some i => ?_
  obtain ⟨j, hj, hp⟩ := counts_some hok _ i (Nat.le_refl _) h
  have : countsF den am am.length ≠ List.replicate 14 0 := fun e => by
    rw [e, rep0] at hp
    omega
  simpa using this
theorem lastF_lt {den : Int} {am : List Am} : ∀ {k i : Nat}, lastF den am k = some i → i < k ∧ brk den (amAt am i) = true
  | 0, i, h => by rw [lastF] at h; cases h
  | k + 1, i, h => by
    rw [lastF] at h
    split at h
    · rename_i hb; injection h with h; subst h; exact ⟨(by omega), hb⟩
    · have := lastF_lt h; exact ⟨(by omega), this.2⟩
theorem pushFold_alike {more : Bool} {by_ : Int} : ∀ (l : List S117) (am : List Am), (∀ x ∈ l, ∃ k, k < am.length ∧ x.f0 = (k : Int)) → Alike am (l.foldl (pushStep more by_) am)
  | [], am, _ => Alike.refl am
  | x :: l, am, h => by
    obtain ⟨k, hk, hx⟩ := h x (by simp)
    have h1 := pushStep_alike (more := more) (by_ := by_) k hk hx
    rw [List.foldl_cons]
    exact h1.trans (pushFold_alike l _ (fun y hy => by rw [h1.1]; exact h y (by simp [hy])))
theorem pushR_alike {den : Int} {am am2 : List Am} {i : Nat} {more : Bool} (hi : i < am.length) (h : pushR den am i more = some am2) : Alike am am2 := by
  unfold pushR at h
  cases hr : roundR den am i with
  | none => rw [hr] at h; cases h
  | some r => ?_
  rw [hr, Option.bind_some] at h
  split at h
  · cases h
  injection h with h
  rw [← h]
  refine pushFold_alike _ am (fun x hx => ?_)
  rcases List.mem_cons.1 hx with rfl | hx
  · exact ⟨i, hi, rfl⟩
  exact (roundR_ok hr x hx).f0
end Go.Proofs.Ytcgdbjojjpoegaa.P

namespace Go.Proofs.Ytcgdbjojjpoegaa.P
open Go.RowKit Go.Shelf Go.Proofs.YtcgdbjojjpoegaaW.PrintWords Go.Proofs.YtcgdbjojjpoegaaW.PrintLast Go.Proofs.YtcgdbjojjpoegaaW.PrintMore Go.Proofs.YtcgdbjojjpoegaaM Go.Proofs.YtcgdbjojjpoegaaR
set_option linter.unusedVariables false
set_option linter.unusedSimpArgs false
/-- at rest between the calls of a book: what has turned since w -/
structure BI (w W : World) (B base : Nat) (den : Int) (vc : Value) (bA cA : Nat) (am : List Am) (seen : List Int) : Prop where
  bk : Bk W B base den vc bA cA am seen
  fr : G2 w W B bA
section
variable {w W W' : World} {B base : Nat} {den : Int} {vc : Value} {bA cA : Nat} {am : List Am} {seen : List Int}
theorem BI.kept {row : Option Nat} (h : BI w W B base den vc bA cA am seen) (hg : W.grownBy W' row) (hrow : ∀ r, row = some r → w.heap.size ≤ r ∧ r ≠ B ∧ r ≠ bA) : BI w W' B base den vc bA cA am seen :=
  ⟨h.bk.kept hg (fun e => (hrow _ e.symm).2.1 rfl) (fun e => (hrow _ e.symm).2.2 rfl), h.fr.more hg (fun r e => .inr (.inr (hrow r e).1))⟩
theorem BI.below (h : BI w W B base den vc bA cA am seen) (hb : Below W.heap.size W W') : BI w W' B base den vc bA cA am seen := h.kept (grown_of_below hb none) (fun r e => by cases e)
end

set_option maxHeartbeats 3000000 in
set_option maxRecDepth 100000 in
theorem settle_calls (B base : Nat) (den : Int) (vc : Value) (bA cA : Nat) (am : List Am) (seen : List Int) (w : World) (h : Bk w B base den vc bA cA am seen) (hok : AmOk am) (hd : den ≠ 0) (hn : am.length ≤ 100) (am2 : List Am) (fuel : Nat) (hr : settleR den fuel am = some am2) :
    Calls Try.prog 71 #[.pointer (some ⟨B, 0, none⟩)] w fun e w' => (∃ v, e = .returned v) ∧ ∃ seen', Bk w' B base den vc bA cA am2 seen' ∧ G2 w w' B bA := by
  have hBA := h.base_le
  have hltB := h.lt
  have HB0 := Lib.hid (show BI w w B base den vc bA cA am seen from ⟨h, G2.refl _ _ _⟩)
  have HR := Lib.hid hr
  have HOK := Lib.hid hok
  clear h hr hok
  go_enter Try.func71, Try.ntmps71
  go_wp2_with fail
  go_loopg [3] fuel (fun kq v3 w' => ∃ (amk : List Am) (sn : List Int), Aside0 (BI w w' B base den vc bA cA amk sn) ∧ Aside0 (Alike am amk) ∧ Aside0 (settleR den kq amk = some am2))
  case atStart => exact ⟨am, seen, ⟨HB0.out⟩, ⟨Alike.refl am⟩, ⟨HR.out⟩⟩
  clear HB0 HR
  obtain ⟨amk, sn, HB, HAL, HT⟩ := hrel
  obtain ⟨kf, rfl⟩ : ∃ x, x = gk := ⟨gk, rfl⟩
  have HBG := Lib.hid (Blk.new wr (arr (List.replicate 14 0)) 94)
  have HB1 := Lib.hid (HB.out.below (box1 wr (.cells (arr (List.replicate 14 0)) 94)))
  have hwr : w.heap.size ≤ wr.heap.size := HB.out.fr.size
  have hBw := HB.out.bk.at_.lt
  have hAw := HB.out.bk.base_le.2
  have e0 : arr (List.replicate 14 0) = #[.int .i64 0, .int .i64 0, .int .i64 0, .int .i64 0, .int .i64 0, .int .i64 0, .int .i64 0, .int .i64 0, .int .i64 0, .int .i64 0, .int .i64 0, .int .i64 0, .int .i64 0, .int .i64 0] := rfl
  have ha0 : AmOk amk := HOK.out.alike HAL.out
  have HOKk := Lib.hid ha0
  have hlk : amk.length ≤ 100 := by rw [HAL.out.1]; exact hn
  clear ha0
  rw [e0] at HBG HB1
  clear HB
  go_upto_region 1 with (fail)
  rw [← e0] at HBG HB1 ⊢
  clear e0
  generalize wr.alloc (.cells (arr (List.replicate 14 0)) 94) = W1 at *
  generalize wr.heap.size = g2 at *
  have c2 := HB1.out.bk.at_.c2
  go_wp2_with fail
  clear c2
  go_loopg [3, 11] amk.length (fun kq v3 v11 w' => ∃ (k : Nat), v11 = .int .i64 k ∧ v3 = .int .i64 (lastV (lastF den amk k)) ∧ Aside0 (k + kq = amk.length) ∧ Aside0 (BI w w' B base den vc bA cA amk sn) ∧ Aside0 (Blk w' g2 94 (arr (countsF den amk k))))
  case atStart => exact ⟨0, rfl, rfl, ⟨(by omega)⟩, ⟨HB1.out⟩, ⟨HBG.out⟩⟩
  clear HB1 HBG
  obtain ⟨k, rfl, rfl, HI, HB, HG⟩ := hrel
  cases gk with
  | zero =>
    have hk' : k = amk.length := by have := HI.out; omega
    subst hk'
    have hlt : decide (amk.length < amk.length) = false := by simp
    have hlt2 : decide ((amk.length : Int) < (amk.length : Int)) = false := by simp
    have hcz := counts_zero (den := den) HOKk.out
    have hcl := counts_len den amk amk.length
    cases hl : lastF den amk amk.length with
    | none =>
      rw [hl] at hcz
      have hcz2 : (countsF den amk amk.length == List.replicate 14 0) = true := hcz
      have HE := Lib.hid (show amk = am2 by
        have h := HT.out
        cases kf <;> (rw [settleR, hl] at h; injection h))
      generalize countsF den amk amk.length = cnt at *
      go_wp2_with (first
        | ((with_reducible refine gate_dst (N := 29) rfl ?_); refine eql_arr rfl 27 28 _ rfl cnt (List.replicate 14 0) rfl rfl hcl rfl ?_; rw [hcz2])
        | ((with_reducible refine gate_dst (N := 27) rfl ?_); refine load_arr rfl (.tmp 2) rfl g2 cnt rfl HG.out hcl ?_))
      refine bodyPost_ret (results_none rfl _ _ _) rfl ?_
      exact ⟨⟨_, rfl⟩, sn, (by rw [← HE.out]; exact HB.out.bk), HB.out.fr⟩
    | some i => ?_
    rw [hl] at hcz
    have hcz2 : (countsF den amk amk.length == List.replicate 14 0) = false := hcz
    obtain ⟨k2, am3, rfl, hp3, hs3⟩ : ∃ k2 am3, kf = k2 + 1 ∧ pushR den amk i true = some am3 ∧ settleR den k2 am3 = some am2 := by
      have h := HT.out
      cases kf with
      | zero => rw [settleR, hl] at h; cases h
      | succ k2 =>
        rw [settleR, hl] at h
        dsimp only at h
        cases hp : pushR den amk i true with
        | none => rw [hp] at h; cases h
        | some am3 => rw [hp] at h; exact ⟨k2, am3, rfl, rfl, h⟩
    have hil := (lastF_lt hl).1
    have HPU := Lib.hid (push_calls B base den vc bA cA amk sn wr HB.out.bk i hil HOKk.out hd hlk true am3 hp3)
    have HAL3 := Lib.hid (HAL.out.trans (pushR_alike hil hp3))
    have HT3 := Lib.hid hs3
    have hlv : lastV (some i) = (i : Int) := rfl
    rw [hlv]
    clear hp3 hs3 hlv hcz
    generalize countsF den amk amk.length = cnt at *
    go_wp2_with (first
      | ((with_reducible refine gate_dst (N := 29) rfl ?_); refine eql_arr rfl 27 28 _ rfl cnt (List.replicate 14 0) rfl rfl hcl rfl ?_; rw [hcz2])
      | ((with_reducible refine gate_dst (N := 27) rfl ?_); refine load_arr rfl (.tmp 2) rfl g2 cnt rfl HG.out hcl ?_)
      | (go_at_call 70; refine (HPU.out).mono ?_; rintro e W2 ⟨⟨ve, rfl⟩, sn2, hb2, hg2⟩; have HB2 := Lib.hid (show BI w W2 B base den vc bA cA am3 sn2 from ⟨hb2, HB.out.fr.trans hg2⟩); clear hb2 hg2))
    go_roundg k2
    case rel => exact ⟨am3, sn2, ⟨HB2.out⟩, ⟨HAL3.out⟩, ⟨HT3.out⟩⟩
    case measure => omega
  | succ k1 => ?_
  have hk' : k < amk.length := by have := HI.out; omega
  have hlt : decide (k < amk.length) = true := by simp [hk']
  have hlt2 : decide ((k : Int) < (amk.length : Int)) = true := decide_eq_true (by omega)
  have hk100 : (k : Int) ≤ 100 := by omega
  have hk2 : (k : Int) < (amk.length : Int) := by omega
  obtain ⟨c0, c1, c2⟩ := HB.out.bk.cell k hk'
  have hfr := HOKk.out _ (List.getElem_mem hk')
  have hamt := amAt_nat amk k hk'
  have HBR := Lib.hid (fun (W : World) (hb : Below wr.heap.size wr W) => broken_calls (HB.out.bk.below hb) k hk' hd)
  have hL1 : lastF den amk (k + 1) = if brk den amk[k] = true then some k else lastF den amk k := by rw [lastF, hamt]
  have hC1 : countsF den amk (k + 1) = if brk den amk[k] = true then (countsF den amk k).set amk[k].fr.toNat ((countsF den amk k).getD amk[k].fr.toNat 0 + 1) else countsF den amk k := by rw [countsF, hamt]
  have hcr := counts_range den amk k amk[k].fr.toNat
  have hcl := counts_len den amk k
  obtain ⟨bb, hbb⟩ : ∃ b, brk den amk[k] = b := ⟨_, rfl⟩
  rw [hbb] at hL1 hC1
  simp only [hbb] at HBR
  clear hbb hamt
  generalize amk[k].fr = fr at *
  generalize amk[k].tt = tt at *
  generalize amk[k].pa = pa at *
  obtain ⟨cv, hcv⟩ : ∃ x, (countsF den amk k).getD fr.toNat 0 = x := ⟨_, rfl⟩
  rw [hcv] at hC1 hcr
  have HCV := Lib.hid hcv
  clear hcv
  generalize countsF den amk k = cnt at *
  generalize lastF den amk k = lst at *
  have hbl := World.block_lt_of_cell? wr _ c0
  have hgl := HG.out.lt
  go_upto_region 5 with (fail)
  have HW2 := Lib.hid (box1 wr (.cells #[.int .i64 fr, .int .i64 tt, .int .i64 pa] 98))
  have HX2 := Lib.hid (Blk.new wr #[.int .i64 fr, .int .i64 tt, .int .i64 pa] 98)
  have HB2 := Lib.hid (HB.out.below HW2.out)
  have HG2 := Lib.hid (HG.out.below HW2.out HG.out.lt)
  have HBR2 := Lib.hid (HBR.out _ HW2.out)
  have hwr2 : w.heap.size ≤ wr.heap.size := HB.out.fr.size
  have hg5 : g2 ≠ wr.heap.size := by omega
  clear HW2 HB HG HBR c0 c1 c2 hbl hgl
  generalize wr.alloc (.cells #[.int .i64 fr, .int .i64 tt, .int .i64 pa] 98) = W2 at *
  generalize wr.heap.size = g5 at *
  cases bb with
  | false =>
    rw [if_neg (by simp)] at hL1 hC1
    have HL1 := Lib.hid hL1
    have HC1 := Lib.hid hC1
    clear hL1 hC1
    go_wp2_with (go_at_call 69; refine (HBR2.out).mono ?_; rintro e W3 ⟨rfl, hdr⟩; have HW3 := Lib.hid (drawn_below hdr); clear hdr)
    go_roundg k1
    case rel => exact ⟨k + 1, (by go_num), (by rw [HL1.out]), ⟨b21_⟩, ⟨HB2.out.below HW3.out⟩, ⟨(by rw [HC1.out]; exact HG2.out.below HW3.out HG2.out.lt)⟩⟩
    case measure => omega
  | true => ?_
  rw [if_pos rfl] at hL1 hC1
  have HL1 := Lib.hid hL1
  have HC1 := Lib.hid hC1
  clear hL1 hC1
  go_upto_region 6 with (go_at_call 69; refine (HBR2.out).mono ?_; rintro e W3 ⟨rfl, hdr⟩; have HW3 := Lib.hid (drawn_below hdr); clear hdr)
  have HB3 := Lib.hid (HB2.out.below HW3.out)
  have HG3 := Lib.hid (HG2.out.below HW3.out HG2.out.lt)
  have HX3 := Lib.hid (HX2.out.below HW3.out HX2.out.lt)
  clear HB2 HG2 HX2 HW3 HBR2
  have z0 : W3.cell? ⟨g5, 0, none⟩ = some (.int .i64 fr) := HX3.out.cell 0
  have z1 : W3.cell? ⟨g2, fr.toNat, none⟩ = some (.int .i64 cv) := by rw [← HCV.out]; exact arr_cell HG3.out fr.toNat (by omega)
  have z2 := HG3.out.fz fr.toNat
  have hf0 := hfr.1.1
  have hf14 := hfr.1.2
  have hc0 := hcr.1
  have hc100 : cv ≤ 100 := by omega
  have hgs := grown_set W3 g2 fr.toNat (.int .i64 (cv + 1))
  have HB4 := Lib.hid (HB3.out.kept hgs (fun r e => by injection e with e; omega))
  have HG4 := Lib.hid (HG3.out.set fr.toNat (.int .i64 (cv + 1)))
  rw [arr_set] at HG4
  clear hgs HB3 HG3 HX3
  go_wp2
  go_roundg k1
  case rel => exact ⟨k + 1, (by go_num), (by rw [HL1.out]; rfl), ⟨b21_⟩, ⟨HB4.out⟩, ⟨(by rw [HC1.out]; exact HG4.out)⟩⟩
  case measure => omega
end Go.Proofs.Ytcgdbjojjpoegaa.P

namespace Go.Proofs.Ytcgdbjojjpoegaa.P
open Go.RowKit Go.Proofs.YtcgdbjojjpoegaaW.PrintWords Go.Proofs.YtcgdbjojjpoegaaW.PrintLast Go.Proofs.YtcgdbjojjpoegaaW.PrintMore
set_option linter.unusedVariables false
set_option linter.unusedSimpArgs false

set_option maxHeartbeats 400000 in
set_option maxRecDepth 100000 in
theorem oddLine65_lit (w : World) (g : Nat) (ad : Addr) (n c : Nat) (A0 : Option Addr) (n0 c0 : Nat) (hn : 0 < n) (h1 : w.cell? ⟨g, 1, none⟩ = some (.slice (some ad) n c)) (h2 : w.cell? ad = some (.slice A0 n0 c0)) :
    PredS 65 #[.pointer (some ⟨g, 0, none⟩)] (oddLine n0) w := by
  intro W A c' x hb hle hC
  have d1 := cell_in hb h1
  have d2 := cell_in hb h2
  have HL := Lib.hid hC.2.1
  clear h1 h2 hb hC hle
  show Calls Try.prog 65 #[.slice A x.length c', .pointer (some ⟨g, 0, none⟩)] W _
  have hn2 : 0 < (n : Int) := by omega
  go_enter Try.func65, Try.ntmps65
  go_wp2
  go_ret
  exact ⟨(by first | rfl | simp [oddLine]), Below.refl _ _⟩
/-- whether coins are near a part -/
def nearB (den part coins : Int) : Bool := coins == wrap64 (part.tdiv den) || coins == wrap64 ((wrap64 (wrap64 (part + den) - 1)).tdiv den)
set_option maxHeartbeats 400000 in
set_option maxRecDepth 100000 in
theorem near_calls (w : World) (g : Nat) (den part coins : Int) (hd : den ≠ 0) (h1 : w.cell? ⟨g, 0, none⟩ = some (.int .i64 den)) :
    Calls Try.prog 66 #[.int .i64 part, .int .i64 coins, .pointer (some ⟨g, 0, none⟩)] w fun e w' => e = .returned (.bool (nearB den part coins)) ∧ Below w.heap.size w w' := by
  have hz : (den == 0) = false := beq_eq_false_iff_ne.mpr hd
  cases q1 : (coins == wrap64 (part.tdiv den)) with
  | true =>
    have EB := Lib.hid (show nearB den part coins = true by rw [nearB, q1]; rfl)
    go_enter Try.func66, Try.ntmps66
    go_wp2
    go_ret
    exact ⟨(by rw [EB.out]; rfl), Below.refl _ _⟩
  | false => ?_
  have EB := Lib.hid (show nearB den part coins = (coins == wrap64 ((wrap64 (wrap64 (part + den) - 1)).tdiv den)) by rw [nearB, q1]; rfl)
  generalize nearB den part coins = nb at *
  go_enter Try.func66, Try.ntmps66
  go_wp2
  go_ret
  exact ⟨(by rw [EB.out]; rfl), Below.refl _ _⟩
theorem withinB_one {lo hi x : Int} : withinB lo hi [x] = true ↔ lo ≤ x ∧ x ≤ hi := by
  rw [← withinB_eq]
  simp
/-- What a valid table is. -/
structure Valid (den : Int) (l : List (List Int)) : Prop where
  n0 : 0 < l.length
  n6 : l.length ≤ 6
  m0 : 0 < (rd_L2 l 0).length
  m6 : (rd_L2 l 0).length ≤ 6
  eq : ∀ x ∈ l, x.length = (rd_L2 l 0).length
  d1 : 1 ≤ den
  d2 : den ≤ 1000
theorem Valid.of {den : Int} {l : List (List Int)} (h : tableE den l = 0) : Valid den l := by
  unfold tableE at h
  split at h
  · omega
  rename_i h1
  split at h
  · omega
  rename_i h2
  split at h
  · omega
  rename_i h3
  have h3' : withinB 1 1000 [den] = true := by simpa using h3
  have h4 := withinB_one.1 h3'
  refine ⟨(by omega), (by omega), (by omega), (by omega), fun x hx => ?_, h4.1, h4.2⟩
  have h5 : l.any (oddLine (rd_L2 l 0).length) = false := by simpa using h2
  rw [List.any_eq_false] at h5
  have := h5 x hx
  unfold oddLine at this
  simp at this
  omega
def nearRow (den : Int) : List Int → List Int → Bool
  | x :: xs, y :: ys => nearB den x y && nearRow den xs ys
  | _, _ => true
def nearRows (den : Int) : List (List Int) → List (List Int) → Bool
  | x :: xs, y :: ys => nearRow den x y && nearRows den xs ys
  | _, _ => true
def roundingE (den : Int) (l coins : List (List Int)) : Int :=
  if tableE den l ≠ 0 then tableE den l else if coins.length ≠ l.length ∨ coins.any (oddLine (rd_L2 l 0).length) = true then 15
  else if nearRows den l coins = false then 16 else if nearRow den ((bookAm l).map (·.pa)) ((bookAm coins).map (·.pa)) = false then 16 else 0
theorem bookAm_len (l : List (List Int)) (m : Nat) (h : (rd_L2 l 0).length = m) (hm : ∀ x ∈ l, x.length = m) : (bookAm l).length = l.length * m + l.length + m + 1 := by
  have h1 := (linesB_len l.length m l 0 ⟨[], List.replicate (l.length + (rd_L2 l 0).length) 0, 0⟩ hm).1
  rw [h] at h1
  unfold bookAm endB bookB
  rw [h]
  simp only [List.length_append, sumsL, sumsC, List.length_map, List.length_range, List.length_cons, List.length_nil] at h1 ⊢
  omega
def rounding30.T21 : Bool × List (List Nat × List Nat) := (true, [([], []), ([], []), ([1], [1]), ([], []), ([3], [3]), ([4], [4]), ([5], [5]), ([], []), ([6, 7], [6, 7]), ([8], [8]), ([9], [9]), ([0, 2, 10], [0, 2, 10]), ([11], [11])])
def rounding30.B21 : List Nat := [0, 0, 2, 0, 8, 24, 56, 0, 248, 504, 1016, 2047, 4095]
theorem rounding30.tab21 : rtab .any (opsOf Try.f30 21) = rounding30.T21 := by kernel_rfl
theorem rounding30.bits21 : waitsOk rounding30.T21.2 rounding30.B21 = true := by kernel_rfl
set_option maxHeartbeats 3000000 in
set_option maxRecDepth 100000 in
theorem checkRounding_calls (den : Int) (A : Option Addr) (c : Nat) (l : List (List Int)) (A1 : Option Addr) (c1 : Nat) (coins : List (List Int)) (w : World)
    (hr : Kd.C (Kd.slice 2 (Kd.int .i64)) w A l.length l) (hcl : l.length ≤ c) (hr1 : Kd.C (Kd.slice 2 (Kd.int .i64)) w A1 coins.length coins) (hcl1 : coins.length ≤ c1) :
    Calls Try.prog 30 #[.agg #[.int .i64 den, .slice A l.length c], .slice A1 coins.length c1] w fun e w' => e = .returned (.int .i64 (roundingE den l coins)) ∧ Below w.heap.size w w' := by
  have HR := Lib.hid hr
  have HR1 := Lib.hid hr1
  have HC := Lib.hid (And.intro hcl hcl1)
  have BK := Lib.hid (blk_new w (.cells #[.int .i64 den, .slice A l.length c] 39))
  have HB := Lib.hid (box1 w (.cells #[.int .i64 den, .slice A l.length c] 39))
  have HL := Lib.hid (And.intro hr.2.1 hr1.2.1)
  clear hr hr1 hcl hcl1
  go_enter Try.func30, Try.ntmps30
  go_upto_region 1 with (fail)
  generalize w.alloc (.cells #[.int .i64 den, .slice A l.length c] 39) = W0 at *
  obtain ⟨g, eg⟩ : ∃ g, w.heap.size = g := ⟨_, rfl⟩
  rw [eg] at BK ⊢
  replace eg := Lib.hid eg
  have y0 : W0.cell? ⟨g, 0, none⟩ = some (.int .i64 den) := (blk_cell BK.out 0).trans rfl
  have y1 : W0.cell? ⟨g, 1, none⟩ = some (.slice A l.length c) := (blk_cell BK.out 1).trans rfl
  go_wp2_with fail
  refine (checkTable_calls den A c l W0 (Kd.C_below HR.out HB.out) HC.out.1).mono ?_
  rintro e W1 ⟨rfl, hb1⟩
  have HB1 := Lib.hid (below_then HB.out HB.out.size hb1)
  have BK1 := Lib.hid (blk_below BK.out hb1)
  clear y0 y1 hb1 HB BK
  obtain ⟨E, eE⟩ : ∃ E, tableE den l = E := ⟨_, rfl⟩
  rw [eE]
  by_cases q1 : E = 0
  rotate_left
  · have t1 : (E != 0) = true := by simp [q1]
    have F1 := Lib.hid (show roundingE den l coins = E by rw [roundingE, if_pos (by rw [eE]; exact q1), eE])
    clear q1 eE
    go_wp2
    go_ret
    exact ⟨(by rw [F1.out]; rfl), HB1.out⟩
  have t1 : (E != 0) = false := by simp [q1]
  have HV := Lib.hid (Valid.of (eE.trans q1))
  have F1 := Lib.hid (show roundingE den l coins = if coins.length ≠ l.length ∨ coins.any (oddLine (rd_L2 l 0).length) = true then 15 else if nearRows den l coins = false then 16 else if nearRow den ((bookAm l).map (·.pa)) ((bookAm coins).map (·.pa)) = false then 16 else 0 by
    rw [roundingE, if_neg (by rw [eE, q1]; simp)])
  clear q1 eE
  have y0 : W1.cell? ⟨g, 0, none⟩ = some (.int .i64 den) := (blk_cell BK1.out 0).trans rfl
  have y1 : W1.cell? ⟨g, 1, none⟩ = some (.slice A l.length c) := (blk_cell BK1.out 1).trans rfl
  by_cases q2 : coins.length = l.length
  rotate_left
  · have t2 : (coins.length != l.length) = true := by simp [q2]
    have t3 : ((coins.length : Int) != (l.length : Int)) = true := bne_iff_ne.mpr (by omega)
    have F2 := Lib.hid (show roundingE den l coins = 15 by rw [F1.out, if_pos (.inl q2)])
    clear q2
    go_wp2
    go_ret
    exact ⟨(by rw [F2.out]; rfl), HB1.out⟩
  have t2 : (coins.length != l.length) = false := by simp [q2]
  have t3 : ((coins.length : Int) != (l.length : Int)) = false := by simp [q2]
  have HQ := Lib.hid q2
  clear q2
  obtain ⟨ad, A0, c0, eA, hc0, _⟩ := row0 (Kd.C_below HR.out HB1.out) HV.out.n0
  subst eA
  have H65 := Lib.hid (ContainsFunc62 65 _ _ A1 c1 coins W1 (enters_of Try.func65 (by kernel_rfl) rfl) (Kd.C_below HR1.out HB1.out) (oddLine65_lit W1 g ad l.length c A0 (rd_L2 l 0).length c0 HV.out.n0 y1 hc0))
  clear hc0
  cases q3 : coins.any (oddLine (rd_L2 l 0).length) with
  | true =>
    rw [q3] at H65
    have F2 := Lib.hid (show roundingE den l coins = 15 by rw [F1.out, if_pos (.inr q3)])
    clear q3
    go_wp2_with fail
    refine (H65.out).mono ?_
    rintro e W2 ⟨rfl, hb1⟩
    have HB2 := Lib.hid (below_then HB1.out HB1.out.size hb1)
    clear hb1 y0 y1
    go_wp2
    go_ret
    exact ⟨(by rw [F2.out]; rfl), HB2.out⟩
  | false => ?_
  rw [q3] at H65
  have F2 := Lib.hid (show roundingE den l coins = if nearRows den l coins = false then 16 else if nearRow den ((bookAm l).map (·.pa)) ((bookAm coins).map (·.pa)) = false then 16 else 0 by
    rw [F1.out, if_neg (by rintro (h | h); exact h HQ.out; rw [q3] at h; cases h)])
  have HCE := Lib.hid (show ∀ x ∈ coins, x.length = (rd_L2 l 0).length by
    intro x hx
    rw [List.any_eq_false] at q3
    have := q3 x hx
    unfold oddLine at this
    simp at this
    omega)
  clear q3
  go_wp2_with fail
  refine (H65.out).mono ?_
  rintro e W2 ⟨rfl, hb1⟩
  have HB2 := Lib.hid (below_then HB1.out HB1.out.size hb1)
  have BK2 := Lib.hid (blk_below BK1.out hb1)
  clear hb1 y0 y1 H65 t2 t3 HB1 BK1 F1
  have y0 : W2.cell? ⟨g, 0, none⟩ = some (.int .i64 den) := (blk_cell BK2.out 0).trans rfl
  have y1 : W2.cell? ⟨g, 1, none⟩ = some (.slice (some ad) l.length c) := (blk_cell BK2.out 1).trans rfl
  clear y0 y1
  go_upto_region 7 with (fail)
  have y1 : W2.cell? ⟨g, 1, none⟩ = some (.slice (some ad) l.length c) := (blk_cell BK2.out 1).trans rfl
  have hd : den ≠ 0 := by have := HV.out.d1; omega
  go_wp2
  clear y1
  go_loopg [7, 8, 9, 10, 35] l.length (fun kq v7 v8 v9 v10 v35 w' => ∃ (i : Nat), v35 = .int .i64 i ∧ Aside0 (i + kq = l.length) ∧ Aside0 (nearRows den (l.drop i) (coins.drop i) = nearRows den l coins) ∧ Aside0 (w'.heap[g]? = some (.cells #[.int .i64 den, .slice (some ad) l.length c] 39 (0, 0)) ∧ Below w.heap.size w w'))
  case atStart => exact ⟨0, rfl, ⟨(by omega)⟩, ⟨rfl⟩, ⟨BK2.out, HB2.out⟩⟩
  clear BK2 HB2
  obtain ⟨i, rfl, HI, HS, HW⟩ := hrel
  cases gk with
  | succ k1 => as_aux_lemma =>
    have hi' : i < l.length := by have := HI.out; omega
    have hic : i < coins.length := by have := HQ.out; omega
    have hlt : decide (i < l.length) = true := by simp [hi']
    have hlt2 : decide ((i : Int) < (l.length : Int)) = true := decide_eq_true (by omega)
    have hi100 : (i : Int) ≤ 100 := by have := HV.out.n6; omega
    obtain ⟨ad', A2, c2, e0, hc0, _, hC2⟩ := at_L2 (Kd.C_below HR.out HW.out.2) (i : Int) (by omega) (by omega)
    cases e0
    rw [Int.toNat_natCast] at hc0
    rw [rd_L2_nat l i hi'] at hc0 hC2
    have HX := Lib.hid (show l[i].length ≤ 6 ∧ l[i].length = coins[i].length by
      have h1 := HV.out.eq l[i] (List.getElem_mem hi')
      have h2 := HCE.out coins[i] (List.getElem_mem hic)
      have := HV.out.m6
      omega)
    have HS1 := Lib.hid (show (nearRow den l[i] coins[i] && nearRows den (l.drop (i + 1)) (coins.drop (i + 1))) = nearRows den l coins by
      have := HS.out
      rwa [List.drop_eq_getElem_cons hi', List.drop_eq_getElem_cons hic, nearRows] at this)
    have HY := Lib.hid (show rd_L2 coins (i : Int) = coins[i] from rd_L2_nat coins i hic)
    have HIC := Lib.hid (show (i : Int) < (coins.length : Int) by omega)
    have HC2 := Lib.hid hC2
    clear hC2 HS
    generalize l[i] = x at *
    generalize coins[i] = y at *
    go_wp2
    clear hc0
    have hic : (i : Int) < (coins.length : Int) := HIC.out
    go_loopg [9, 10, 42] x.length (fun kq v9 v10 v42 w' => ∃ (k : Nat), v42 = .int .i64 k ∧ Aside0 (k + kq = x.length) ∧ Aside0 ((nearRow den (x.drop k) (y.drop k) && nearRows den (l.drop (i + 1)) (coins.drop (i + 1))) = nearRows den l coins) ∧ Aside0 (w'.heap[g]? = some (.cells #[.int .i64 den, .slice (some ad) l.length c] 39 (0, 0)) ∧ Below w.heap.size w w' ∧ Below wr.heap.size wr w'))
    case atStart => exact ⟨0, rfl, ⟨(by omega)⟩, ⟨HS1.out⟩, ⟨HW.out.1, HW.out.2, Below.refl _ _⟩⟩
    obtain ⟨k, rfl, HJ, HS, HW⟩ := hrel
    cases gk with
    | zero => as_aux_lemma =>
      have hk' : k = x.length := by have := HJ.out; omega
      have hlt3 : decide (k < x.length) = false := by simp [hk']
      have hlt4 : decide ((k : Int) < (x.length : Int)) = false := decide_eq_false (by omega)
      have HS2 := Lib.hid (show nearRows den (l.drop (i + 1)) (coins.drop (i + 1)) = nearRows den l coins by
        have := HS.out
        rw [show x.drop k = [] from List.drop_of_length_le (by omega)] at this
        simpa [nearRow] using this)
      clear hk'
      go_wp2
      go_roundg k1
      case rel => exact ⟨i + 1, (by go_num), ⟨b21_⟩, ⟨HS2.out⟩, ⟨HW.out.1, HW.out.2.1⟩⟩
      case measure => omega
    | succ k2 => as_aux_lemma =>
      have hk' : k < x.length := by have := HJ.out; omega
      have hky : k < y.length := by have := HX.out; omega
      have hlt3 : decide (k < x.length) = true := by simp [hk']
      have hlt4 : decide ((k : Int) < (x.length : Int)) = true := decide_eq_true (by omega)
      have hk100 : (k : Int) ≤ 100 := by have := HX.out; omega
      obtain ⟨ad4, e0, hcx⟩ := Kd.at_int (Kd.C_below HC2.out HW.out.2.2) (k : Int) (by omega) (by omega)
      subst e0
      rw [Int.toNat_natCast, rd_nat x k hk'] at hcx
      obtain ⟨ad3, A3, c3, e0, hc3, _, hC3⟩ := at_L2 (Kd.C_below HR1.out HW.out.2.1) (i : Int) (by omega) (by omega)
      subst e0
      rw [Int.toNat_natCast] at hc3
      rw [HY.out] at hc3 hC3
      obtain ⟨ad5, e0, hcy⟩ := Kd.at_int hC3 (k : Int) (by omega) (by omega)
      subst e0
      rw [Int.toNat_natCast, rd_nat y k hky] at hcy
      have hky3 : (k : Int) < (y.length : Int) := by omega
      have HS2 := Lib.hid (show ((nearB den x[k] y[k] && nearRow den (x.drop (k + 1)) (y.drop (k + 1))) && nearRows den (l.drop (i + 1)) (coins.drop (i + 1))) = nearRows den l coins by
        have := HS.out
        rwa [List.drop_eq_getElem_cons hk', List.drop_eq_getElem_cons hky, nearRow] at this)
      clear hC3 HS
      generalize x[k] = p at *
      generalize y[k] = q at *
      have H66 := Lib.hid (near_calls wr g den p q hd ((blk_cell HW.out.1 0).trans rfl))
      cases q4 : nearB den p q with
      | false =>
        rw [q4] at H66 HS2
        have F3 := Lib.hid (show roundingE den l coins = 16 by
          rw [F2.out, if_pos]
          rw [← HS2.out]
          rfl)
        clear q4
        go_wp2_with fail
        refine (H66.out).mono ?_
        rintro e W4 ⟨rfl, hb4⟩
        have HB4 := Lib.hid hb4
        clear hb4
        go_wp2
        go_ret
        exact ⟨(by rw [F3.out]; rfl), below_then HW.out.2.1 HW.out.2.1.size HB4.out⟩
      | true => ?_
      rw [q4] at H66 HS2
      clear q4
      go_wp2_with fail
      refine (H66.out).mono ?_
      rintro e W4 ⟨rfl, hb4⟩
      have HB4 := Lib.hid hb4
      clear hb4
      go_wp2
      go_roundg k2
      case rel => exact ⟨k + 1, (by go_num), ⟨(by have := HJ.out; omega)⟩, ⟨(by rw [← HS2.out, Bool.true_and])⟩, ⟨blk_below HW.out.1 HB4.out, below_then HW.out.2.1 HW.out.2.1.size HB4.out, below_then HW.out.2.2 HW.out.2.2.size HB4.out⟩⟩
      case measure => omega
  | zero => ?_
  have hi' : i = l.length := by have := HI.out; omega
  have hlt : decide (i < l.length) = false := by simp [hi']
  have hlt2 : decide ((i : Int) < (l.length : Int)) = false := decide_eq_false (by omega)
  have F3 := Lib.hid (show roundingE den l coins = if nearRow den ((bookAm l).map (·.pa)) ((bookAm coins).map (·.pa)) = false then 16 else 0 by
    have h1 := HS.out
    rw [show l.drop i = [] from List.drop_of_length_le (by omega)] at h1
    rw [F2.out, ← h1]
    rfl)
  clear hi' HS F2
  have y0 : wr.cell? ⟨g, 0, none⟩ = some (.int .i64 den) := (blk_cell HW.out.1 0).trans rfl
  have y1 : wr.cell? ⟨g, 1, none⟩ = some (.slice (some ad) l.length c) := (blk_cell HW.out.1 1).trans rfl
  go_wp2_with fail
  refine (newBook_calls den (some ad) c l wr (Kd.C_below HR.out HW.out.2) HC.out.1 HV.out.n0 HV.out.n6 HV.out.m6 HV.out.eq).mono ?_
  rintro e W3 ⟨B1, base1, bA1, cA1, rfl, hk1, hle1, hlt1, hb1⟩
  have HB3 := Lib.hid (below_then HW.out.2 HW.out.2.size hb1)
  have HK1 := Lib.hid (show Bk W3 B1 base1 den (.slice (some ad) l.length c) bA1 cA1 (bookAm l) zero14 from ⟨hk1, hlt1⟩)
  have BK3 := Lib.hid (blk_below HW.out.1 hb1)
  clear hk1 hle1 hlt1 hb1 y0 y1
  have hc0 : 0 < coins.length := by have := HQ.out; have := HV.out.n0; omega
  have hcm : (rd_L2 coins 0).length = (rd_L2 l 0).length := HCE.out _ (by
    have := rd_L2_nat coins 0 hc0
    rw [show ((0 : Nat) : Int) = 0 from rfl] at this
    rw [this]
    exact List.getElem_mem hc0)
  have HCM := Lib.hid (show 0 < coins.length ∧ coins.length ≤ 6 ∧ (rd_L2 coins 0).length ≤ 6 ∧ ∀ x ∈ coins, x.length = (rd_L2 coins 0).length from ⟨hc0, (by have := HQ.out; have := HV.out.n6; omega), (by have := HV.out.m6; omega), fun x hx => by rw [hcm]; exact HCE.out x hx⟩)
  clear hc0 hcm
  go_wp2_with fail
  refine (newBook_calls 1 A1 c1 coins W3 (Kd.C_below HR1.out HB3.out) HC.out.2 HCM.out.1 HCM.out.2.1 HCM.out.2.2.1 HCM.out.2.2.2).mono ?_
  rintro e W4 ⟨B2, base2, bA2, cA2, rfl, hk2, hle2, hlt2, hb1⟩
  have HB4 := Lib.hid (below_then HB3.out HB3.out.size hb1)
  have HK4 := Lib.hid (HK1.out.below hb1)
  have HK2 := Lib.hid (show Bk W4 B2 base2 1 (.slice A1 coins.length c1) bA2 cA2 (bookAm coins) zero14 from ⟨hk2, hlt2⟩)
  have BK4 := Lib.hid (blk_below BK3.out hb1)
  clear hk2 hle2 hlt2 hb1 HK1 BK3 HB3
  have y2 : W4.cell? ⟨B1, 2, none⟩ = some (.slice (some ⟨bA1, 0, none⟩) (bookAm l).length cA1) := HK4.out.at_.c2
  have HAL := Lib.hid (show (bookAm coins).length = (bookAm l).length ∧ (bookAm l).length ≤ 100 by
    have hm2 : (rd_L2 coins 0).length = (rd_L2 l 0).length := HCE.out _ (by
      have h0 := HCM.out.1
      have := rd_L2_nat coins 0 h0
      rw [show ((0 : Nat) : Int) = 0 from rfl] at this
      rw [this]
      exact List.getElem_mem h0)
    have h1 := bookAm_len l _ rfl HV.out.eq
    have h2 := bookAm_len coins _ hm2 HCE.out
    have h3 : l.length * (rd_L2 l 0).length ≤ 6 * 6 := Nat.mul_le_mul HV.out.n6 HV.out.m6
    have h4 := HV.out.n6
    have h5 := HV.out.m6
    rw [HQ.out] at h2
    omega)
  generalize bookAm l = am at *
  generalize bookAm coins = am2 at *
  go_wp2
  clear y2
  go_loopg [13, 14, 70] am.length (fun kq v13 v14 v70 w' => ∃ (i : Nat), v70 = .int .i64 i ∧ Aside0 (i + kq = am.length) ∧ Aside0 (nearRow den ((am.map (·.pa)).drop i) ((am2.map (·.pa)).drop i) = nearRow den (am.map (·.pa)) (am2.map (·.pa))) ∧ Aside0 (w'.heap[g]? = some (.cells #[.int .i64 den, .slice (some ad) l.length c] 39 (0, 0)) ∧ Below w.heap.size w w' ∧ Bk w' B1 base1 den (.slice (some ad) l.length c) bA1 cA1 am zero14 ∧ Bk w' B2 base2 1 (.slice A1 coins.length c1) bA2 cA2 am2 zero14))
  case atStart => exact ⟨0, rfl, ⟨(by omega)⟩, ⟨rfl⟩, ⟨BK4.out, HB4.out, HK4.out, HK2.out⟩⟩
  clear BK4 HB4 HK4 HK2
  obtain ⟨i, rfl, HI, HS, HW⟩ := hrel
  cases gk with
  | zero => as_aux_lemma =>
    have hi' : i = am.length := by have := HI.out; omega
    have hlt : decide (i < am.length) = false := by simp [hi']
    have hlt2 : decide ((i : Int) < (am.length : Int)) = false := decide_eq_false (by omega)
    have F4 := Lib.hid (show roundingE den l coins = 0 by
      have h1 := HS.out
      rw [show (am.map (·.pa)).drop i = [] from List.drop_of_length_le (by rw [List.length_map]; omega)] at h1
      rw [F3.out, ← h1]
      rfl)
    clear hi' HS F3
    go_wp2
    go_ret
    exact ⟨(by rw [F4.out]; rfl), HW.out.2.1⟩
  | succ k1 => as_aux_lemma =>
    have hi' : i < am.length := by have := HI.out; omega
    have hia : i < am2.length := by have := HAL.out; omega
    have hlt : decide (i < am.length) = true := by simp [hi']
    have hlt2 : decide ((i : Int) < (am.length : Int)) = true := decide_eq_true (by omega)
    have hi100 : (i : Int) ≤ 100 := by have := HAL.out; omega
    obtain ⟨a0, a1, a2⟩ := HW.out.2.2.1.cell i hi'
    have hcell2 := fun (W : World) (hW : Below wr.heap.size wr W) => ((HW.out.2.2.2.below hW).cell i hia).2.2
    have HS1 := Lib.hid (show (nearB den am[i].pa am2[i].pa && nearRow den ((am.map (·.pa)).drop (i + 1)) ((am2.map (·.pa)).drop (i + 1))) = nearRow den (am.map (·.pa)) (am2.map (·.pa)) by
      have := HS.out
      rw [List.drop_eq_getElem_cons (by simpa using hi'), List.drop_eq_getElem_cons (l := am2.map (·.pa)) (by simpa using hia), nearRow, List.getElem_map, List.getElem_map] at this
      exact this)
    have hia3 : (i : Int) < (am2.length : Int) := by omega
    clear HS
    generalize am[i].fr = f0 at *
    generalize am[i].tt = t0 at *
    generalize am[i].pa = p0 at *
    generalize am2[i].pa = p1 at *
    have hblk := World.block_lt_of_cell? wr _ a0
    have hblk3 : ¬ bA1 = wr.heap.size := by
      have : bA1 < wr.heap.size := hblk
      omega
    go_upto_region 21 with (fail)
    have hbt := below_alloc (Below.refl wr.heap.size wr) (.cells #[.int .i64 f0, .int .i64 t0, .int .i64 p0] 98)
    have BT := blk_new wr (.cells #[.int .i64 f0, .int .i64 t0, .int .i64 p0] 98)
    have HW1 := Lib.hid (show (wr.alloc (.cells #[.int .i64 f0, .int .i64 t0, .int .i64 p0] 98)).heap[g]? = some (.cells #[.int .i64 den, .slice (some ad) l.length c] 39 (0, 0)) ∧ Below w.heap.size w (wr.alloc (.cells #[.int .i64 f0, .int .i64 t0, .int .i64 p0] 98)) ∧ Bk (wr.alloc (.cells #[.int .i64 f0, .int .i64 t0, .int .i64 p0] 98)) B1 base1 den (.slice (some ad) l.length c) bA1 cA1 am zero14 ∧ Bk (wr.alloc (.cells #[.int .i64 f0, .int .i64 t0, .int .i64 p0] 98)) B2 base2 1 (.slice A1 coins.length c1) bA2 cA2 am2 zero14 from ⟨blk_below HW.out.1 hbt, below_then HW.out.2.1 HW.out.2.1.size hbt, HW.out.2.2.1.below hbt, HW.out.2.2.2.below hbt⟩)
    have HC2 := Lib.hid (fun (W : World) (hW : Below (wr.alloc (.cells #[.int .i64 f0, .int .i64 t0, .int .i64 p0] 98)).heap.size (wr.alloc (.cells #[.int .i64 f0, .int .i64 t0, .int .i64 p0] 98)) W) => hcell2 W (below_then hbt hbt.size hW))
    clear a0 a1 a2 hbt HW hcell2 hblk hblk3
    generalize wr.alloc (.cells #[.int .i64 f0, .int .i64 t0, .int .i64 p0] 98) = W5 at *
    generalize wr.heap.size = g14 at *
    obtain ⟨Wd, ed⟩ : ∃ Wd, W5.drew = Wd := ⟨_, rfl⟩
    have hd0 : Below W5.heap.size W5 Wd := by rw [← ed]; exact below_drew (Below.refl _ _)
    have z14 := blk_below BT hd0
    have zc := HC2.out Wd hd0
    have z2 := (HW1.out.2.2.2.below hd0).at_.c2
    have zg : Wd.cell? ⟨g, 0, none⟩ = some (.int .i64 den) := (blk_cell (blk_below HW1.out.1 hd0) 0).trans rfl
    have H66 := Lib.hid (near_calls Wd g den p0 p1 hd zg)
    have EG := enters_of (P := Try.prog) Try.func66 (by kernel_rfl) rfl
    obtain ⟨nb, hnb⟩ : ∃ nb, nearB den p0 p1 = nb := ⟨_, rfl⟩
    rw [hnb] at H66 HS1
    clear hnb
    refine sA_ 13 (fun w' => w'.cell? ⟨g14, 2, none⟩ = some (.int .i64 p0) ∧ w'.cell? ⟨B2, 2, none⟩ = some (.slice (some ⟨bA2, 0, none⟩) am2.length cA2) ∧ w'.cell? ⟨bA2, i * 3 + 2, none⟩ = some (.int .i64 p1)) [] rounding30.tab21 rounding30.bits21 (by rw [ed]; exact ⟨(blk_cell z14 2).trans rfl, z2, zc⟩) (fun hHeld HT_ HW_ => ?_)
    rw [ed] at hHeld ⊢
    refine pA_ 0 (some 75) 13 1 ?_
    refine pA_ 1 (some 76) 13 3 ?_
    refine tE_ 2 (some 77) 13 7 ?_
    refine pA_ 3 (some 78) 13 15 ?_
    refine pA_ 4 (some 79) 13 31 ?_
    refine pA_ 5 (some 80) 13 63 ?_
    refine tE_ 6 (some 81) 13 127 ?_
    refine pA_ 7 (some 82) 13 255 ?_
    refine pA_ 8 (some 83) 13 511 ?_
    refine pA_ 9 (some 84) 13 1023 ?_
    refine tE_ 10 (some 85) 13 2047 ?_
    refine oA_ 11 (some 86) 13 4095 (fun K hK => ?_)
    refine goesV_ EG #[.int .i64 p0, .int .i64 p1] (by rfl) rfl rfl (by rfl) b11_ ?_
    refine (H66.out).mono ?_
    rintro e W6 ⟨rfl, hb6⟩
    refine ⟨_, rfl, ?_⟩
    have hd6 := below_then hd0 hd0.size hb6
    refine hK.out _ _ ⟨(blk_cell (blk_below BT hd6) 2).trans rfl, (HW1.out.2.2.2.below hd6).at_.c2, HC2.out W6 hd6⟩ (fun hHeld => ?_)
    clear hK K
    refine nA_ (some 86) ?_
    refine pA_ 12 (some 87) 13 8191 ?_
    refine dA_ ?_
    have HW6 := Lib.hid (show W6.heap[g]? = some (.cells #[.int .i64 den, .slice (some ad) l.length c] 39 (0, 0)) ∧ Below w.heap.size w W6 ∧ Bk W6 B1 base1 den (.slice (some ad) l.length c) bA1 cA1 am zero14 ∧ Bk W6 B2 base2 1 (.slice A1 coins.length c1) bA2 cA2 am2 zero14 from ⟨blk_below HW1.out.1 hd6, below_then HW1.out.2.1 HW1.out.2.1.size hd6, HW1.out.2.2.1.below hd6, HW1.out.2.2.2.below hd6⟩)
    clear hHeld HT_ HW_ z14 zc z2 zg hd0 hb6 hd6 ed BT HW1 HC2 H66
    cases nb with
    | true =>
      go_wp2
      go_roundg k1
      case rel => exact ⟨i + 1, (by go_num), ⟨b21_⟩, ⟨(by rw [← HS1.out, Bool.true_and])⟩, ⟨HW6.out⟩⟩
      case measure => omega
    | false => ?_
    have F4 := Lib.hid (show roundingE den l coins = 16 by
      rw [F3.out, if_pos]
      rw [← HS1.out]
      rfl)
    go_wp2
    go_ret
    exact ⟨(by rw [F4.out]; rfl), HW6.out.2.1⟩
end Go.Proofs.Ytcgdbjojjpoegaa.P

namespace Go.Proofs.Ytcgdbjojjpoegaa.P
open Go.RowKit Go.Shelf Go.Proofs.YtcgdbjojjpoegaaW.PrintWords Go.Proofs.YtcgdbjojjpoegaaW.PrintLast Go.Proofs.YtcgdbjojjpoegaaW.PrintMore Go.Proofs.YtcgdbjojjpoegaaM Go.Proofs.YtcgdbjojjpoegaaR
set_option linter.unusedVariables false
set_option linter.unusedSimpArgs false

def PlOk (a : Am) : Prop := (0 ≤ a.fr ∧ a.fr < 14) ∧ (0 ≤ a.tt ∧ a.tt < 14)
theorem lineB_ok (n i : Nat) (hi : i < 6) : ∀ (xs : List Int) (k : Nat) (s : Bs), k + xs.length ≤ 6 → (∀ a ∈ s.am, PlOk a) → ∀ a ∈ (lineB n i k xs s).am, PlOk a
  | [], k, s, _, h => h
  | x :: xs, k, s, hk, h => by
    rw [lineB]
    refine lineB_ok n i hi xs (k + 1) _ (by simp at hk; omega) (fun a ha => ?_)
    simp only [List.length_cons] at hk
    rw [stepB, List.mem_append, List.mem_singleton] at ha
    rcases ha with ha | rfl
    · exact h a ha
    · refine ⟨⟨?_, ?_⟩, ⟨?_, ?_⟩⟩ <;> (dsimp only; omega)
theorem linesB_ok (n : Nat) : ∀ (l : List (List Int)) (i : Nat) (s : Bs), i + l.length ≤ 6 → (∀ x ∈ l, x.length ≤ 6) → (∀ a ∈ s.am, PlOk a) → ∀ a ∈ (linesB n i l s).am, PlOk a
  | [], i, s, _, _, h => h
  | x :: l, i, s, hi, hx, h => by
    rw [linesB]
    simp only [List.length_cons] at hi
    exact linesB_ok n l (i + 1) _ (by omega) (fun y hy => hx y (by simp [hy])) (lineB_ok n i (by omega) x 0 s (by have := hx x (by simp); omega) h)
theorem bookAm_ok (l : List (List Int)) (hn : l.length ≤ 6) (hm : (rd_L2 l 0).length ≤ 6) (he : ∀ x ∈ l, x.length = (rd_L2 l 0).length) : AmOk (bookAm l) := by
  intro a ha
  unfold bookAm endB at ha
  simp only [List.mem_append, List.mem_singleton] at ha
  rcases ha with ((ha | ha) | ha) | rfl
  · exact linesB_ok l.length l 0 _ (by omega) (fun x hx => by rw [he x hx]; exact hm) (by simp) a ha
  · unfold sumsL at ha
    rw [List.mem_map] at ha
    obtain ⟨j, hj, rfl⟩ := ha
    rw [List.mem_range] at hj
    refine ⟨⟨?_, ?_⟩, ⟨?_, ?_⟩⟩ <;> (dsimp only; omega)
  · unfold sumsC at ha
    rw [List.mem_map] at ha
    obtain ⟨j, hj, rfl⟩ := ha
    rw [List.mem_range] at hj
    refine ⟨⟨?_, ?_⟩, ⟨?_, ?_⟩⟩ <;> (dsimp only; omega)
  refine ⟨⟨?_, ?_⟩, ⟨?_, ?_⟩⟩ <;> (dsimp only; omega)
theorem settleR_alike {den : Int} : ∀ (k : Nat) (am am2 : List Am), settleR den k am = some am2 → Alike am am2
  | 0, am, am2, h => by
    rw [settleR] at h
    split at h
    · injection h with h; exact h ▸ Alike.refl am
    · cases h
  | k + 1, am, am2, h => by
    rw [settleR] at h
    split at h
    · injection h with h; exact h ▸ Alike.refl am
    · rename_i i hl
      cases hp : pushR den am i true with
      | none => rw [hp] at h; cases h
      | some am3 =>
        rw [hp] at h
        exact (pushR_alike (lastF_lt hl).1 hp).trans (settleR_alike k am3 am2 h)
/-- a table that a book takes -/
structure Tab (l : List (List Int)) : Prop where
  n0 : 0 < l.length
  n6 : l.length ≤ 6
  m0 : 0 < (rd_L2 l 0).length
  m6 : (rd_L2 l 0).length ≤ 6
  eq : ∀ x ∈ l, x.length = (rd_L2 l 0).length
theorem Tab.len {l : List (List Int)} (h : Tab l) : (bookAm l).length = l.length * (rd_L2 l 0).length + l.length + (rd_L2 l 0).length + 1 := bookAm_len l _ rfl h.eq
theorem Tab.le100 {l : List (List Int)} (h : Tab l) : (bookAm l).length ≤ 100 := by
  have h1 := h.len
  have h2 : l.length * (rd_L2 l 0).length ≤ 6 * 6 := Nat.mul_le_mul h.n6 h.m6
  have := h.n6
  have := h.m6
  omega
theorem Tab.ok {l : List (List Int)} (h : Tab l) : AmOk (bookAm l) := bookAm_ok l h.n6 h.m6 h.eq
theorem Valid.tab {den : Int} {l : List (List Int)} (h : Valid den l) : Tab l := ⟨h.n0, h.n6, h.m0, h.m6, h.eq⟩
set_option maxHeartbeats 1000000 in
set_option maxRecDepth 100000 in
theorem round68_calls (den : Int) (A : Option Addr) (c : Nat) (l : List (List Int)) (w : World) (hr : Kd.C (Kd.slice 2 (Kd.int .i64)) w A l.length l) (hcl : l.length ≤ c) (ht : Tab l) (hd : den ≠ 0) (fuel : Nat) (am2 : List Am) (hs : settleR den fuel (bookAm l) = some am2) :
    Calls Try.prog 68 #[.agg #[.int .i64 den, .slice A l.length c]] w fun e w' => ∃ A' c' rs, e = .returned (.slice A' l.length c') ∧ lines rs = coinsL den am2 (rd_L2 l 0).length l.length ∧ Grid w' w.heap.size (.slice A' l.length c') rs ∧ Below w.heap.size w w' := by
  have HR := Lib.hid (Kd.C_below hr (box1 w (.cells #[.int .i64 den, .slice A l.length c] 39)))
  have HB := Lib.hid (box1 w (.cells #[.int .i64 den, .slice A l.length c] 39))
  have HC := Lib.hid hcl
  have HS := Lib.hid hs
  have HT := Lib.hid ht
  clear hr hcl hs ht
  go_enter Try.func68, Try.ntmps68
  go_upto_region 1 with (fail)
  have BK := blk_new w (.cells #[.int .i64 den, .slice A l.length c] 39)
  have hsz : w.heap.size < (w.alloc (.cells #[.int .i64 den, .slice A l.length c] 39)).heap.size := by simp
  generalize w.alloc (.cells #[.int .i64 den, .slice A l.length c] 39) = W1 at *
  have y0 : W1.cell? ⟨w.heap.size, 0, none⟩ = some (.int .i64 den) := (blk_cell BK 0).trans rfl
  have y1 : W1.cell? ⟨w.heap.size, 1, none⟩ = some (.slice A l.length c) := (blk_cell BK 1).trans rfl
  have HBK := Lib.hid (newBook_calls den A c l W1 HR.out HC.out HT.out.n0 HT.out.n6 HT.out.m6 HT.out.eq)
  go_upto_region 2 with (go_at_call 67; refine (HBK.out).mono ?_; rintro e W2 ⟨B1, base1, bA1, cA1, rfl, hk1, hle1, hlt1, hb1⟩; have HK1 := Lib.hid (show Bk W2 B1 base1 den (.slice A l.length c) bA1 cA1 (bookAm l) zero14 from ⟨hk1, hlt1⟩); have HLE := Lib.hid (show W1.heap.size ≤ B1 from hle1); have HB1 := Lib.hid hb1; clear hk1 hle1 hlt1 hb1)
  have HSET := Lib.hid (settle_calls B1 base1 den _ bA1 cA1 (bookAm l) zero14 W2 HK1.out HT.out.ok hd HT.out.le100 am2 fuel HS.out)
  clear y0 y1 BK HBK
  go_upto_region 3 with (go_at_call 71; refine (HSET.out).mono ?_; rintro e W3 ⟨⟨ve, rfl⟩, sn, hb3, hg3⟩; have HK3 := Lib.hid hb3; have HG3 := Lib.hid hg3; clear hb3 hg3)
  have hblt := HK1.out.base_le
  have hlt := HK1.out.lt
  have hle := HLE.out
  have hw1 := HB1.out.size
  have HB3 := Lib.hid (show Below W1.heap.size W1 W3 from HB1.out.trans ((HG3.out.below (n := W1.heap.size) hw1 hle (by omega))))
  have HAL := Lib.hid (settleR_alike fuel _ am2 HS.out)
  have HCO := Lib.hid (coins_calls B1 base1 den A c bA1 cA1 (rd_L2 l 0).length l am2 sn W3 HK3.out (Kd.C_below HR.out HB3.out) HT.out.n0 HT.out.n6 HT.out.m0 HT.out.m6 rfl (by rw [HAL.out.1, HT.out.len]; omega) hd)
  clear HSET
  go_wp2_with (go_at_call 72; refine (HCO.out).mono ?_; rintro e W4 ⟨A', c', rs, rfl, hl4, hg4, hb4⟩; have HL4 := Lib.hid hl4; have HG4 := Lib.hid hg4; have HB4 := Lib.hid hb4; clear hl4 hg4 hb4)
  go_ret
  have h3 := HB3.out.size
  exact ⟨A', c', rs, rfl, HL4.out, HG4.out.lower (by omega), below_then HB.out HB.out.size (below_then HB3.out HB3.out.size HB4.out)⟩
theorem Grid.S {W : World} {base : Nat} {v : Value} {rs : List Ln} (h : Grid W base v rs) : Kd.S (Kd.slice 2 (Kd.int .i64)) 48 W base (fun _ => True) v (lines rs) := by
  refine ⟨fun k => (rs.map (·.b)).idxOf k, fun _ _ => trivial, rs.map Ln.v, (by rw [List.length_zipIdx, lines_len]; exact h.own), (by simp [lines, Kd.slice, Kd.tag]), fun j p hj => ?_⟩
  obtain ⟨hj1, hj2⟩ := List.getElem?_eq_some_iff.1 hj
  have hj' : j < rs.length := by simpa [lines] using hj1
  have hp2 : p = (rs[j].l, j) := by rw [← hj2]; simp [lines]
  subst hp2
  have hrow := h.rows _ (List.getElem_mem hj')
  have e : ((rs.map Ln.v).drop (j * (Kd.slice 2 (Kd.int .i64)).sz)).take (Kd.slice 2 (Kd.int .i64)).sz = [rs[j].v] := by
    show ((rs.map Ln.v).drop (j * 1)).take 1 = _
    rw [Nat.mul_one, List.drop_eq_getElem_cons (by simpa using hj')]
    simp
  show (Kd.slice 2 (Kd.int .i64)).M W base _ rs[j].l (((rs.map Ln.v).drop (j * (Kd.slice 2 (Kd.int .i64)).sz)).take (Kd.slice 2 (Kd.int .i64)).sz)
  rw [e]
  refine ⟨_, rfl, Kd.R_of_own (hrow.2.1.own hrow.1) (fun k hk => ?_)⟩
  have hk2 : k = rs[j].b := by simpa [Value.ownBlock, Ln.v] using hk.symm
  subst hk2
  refine ⟨⟨trivial, hrow.2.2⟩, ?_⟩
  have h1 := h.nd.idxOf_getElem j (by simpa using hj')
  simpa using h1
end Go.Proofs.Ytcgdbjojjpoegaa.P

