/- Texts of this claim, joined: Px0, K, L, L2, L3, E1, E2, E3, E4, E5, E6, M, E7, E8, R, E9, Px2, E10, E11, E12, E13, E14, V. -/
import Derived.Test.YtfhmepdbbhcncaaProg
import Derived.Below
import Derived.Deep.Draws
import Derived.Deep.AppendLies
import Derived.Maps.AppendAt
import Derived.OwnWalk
import Derived.Laws.BytesArg
import Derived.Laws.MakeOwn
import Derived.Laws.OwnMore
import Derived.Deep.OwnRows
import Derived.Tactics
import Derived.Lib.ConvBytes
import Derived.Laws.Slices
import Derived.WalkKit
import Derived.KernelRfl
import Derived.RowKit3
import Derived.Deep.LoopGhost
import Derived.Deep.QuietTactic
import Derived.BigQuiet
import Derived.WideLaws
import Derived.Deep.DeepCutAuto
import Derived.Deep.CutBlock
import Derived.Deep.RegionHeld3
import Derived.Laws.Rows
import Derived.Lib.AppendStr
import Derived.ArgAppend
import Derived.Laws.IdiomCopy
import Derived.OrdersHeld
import Derived.Laws.BitsLemmas
import Derived.RowKit
import Derived.Test.YtfhmepdbbhcncaaWP
import Derived.Deep.Slices
import Derived.ChangeShapes
import Derived.ChangeOld
import Derived.Lib.SmallJoins
import Derived.OpenShut
import Derived.Lib.Hide
import Derived.Outline
import Derived.Shelf.Abstract
import Derived.Laws.EntriesVeiled
import Derived.Lib.SliceRun
import Derived.RangeFuncBox
import Derived.MapKept
import Derived.Carry
import Derived.RangeFuncOwn
import Derived.RangeFuncNested
import Derived.RangeFuncBound
import Derived.RangeFuncCalls
import Derived.RangeFuncLeaves
import Derived.Shelf.AbstractIn
import Derived.Shelf.RegionOpen
import Derived.OwnWalkIn
import Derived.TacticsInMore
import Derived.LoopNIn
import Derived.LoopIn
import Derived.Sort.LoopGhostIn
import Derived.StillTail
import Derived.StillTailTactics
import Derived.OrdersIn
import Derived.TacticsIn
import Derived.Lib.QuietBelow
import Derived.Sort.CutIn
namespace Go.Proofs.Ytfhmepdbbhcncaa.P
open Go.RowKit Go.Proofs.YtfhmepdbbhcncaaW.PrintWords Go.Proofs.YtfhmepdbbhcncaaW.PrintLast
set_option linter.unusedVariables false
set_option linter.unusedSimpArgs false

def errW : Option Int → Value
  | none => .nilIface
  | some c => .iface 0 (.int .i64 c)
theorem errW_none : errW none = .nilIface := rfl
theorem errW_some (c : Int) : errW (some c) = .iface 0 (.int .i64 c) := rfl

theorem info2 : (Try.prog.info? 2).map (fun i => (i.zero, i.size, i.bytes)) = some (some (.int .i64 0), 1, 8) := by kernel_rfl
theorem info3 : (Try.prog.info? 3).map (fun i => (i.zero, i.size, i.bytes)) = some (some (.int .i64 0), 1, 8) := by kernel_rfl
theorem info26 : (Try.prog.info? 26).map (fun i => (i.zero, i.size, i.bytes)) = some (some (.agg #[(.int .i64 0), (.int .i64 0)]), 2, 16) := by kernel_rfl
-- the values' own types
/-! #### struct type 56 -/
structure S56 where
  f0 : Int
  f1 : Int
def z56 : S56 := ⟨(0 : Int), (0 : Int)⟩
def k56 : Kd S56 := Kd.iso (Kd.pair (Kd.int .i64) (Kd.int .i64)) (fun x : S56 => (x.f0, x.f1))
theorem k56_open {w : World} {x : S56} {cs : List Value} (h : k56.K w x cs) : cs = [.int .i64 x.f0, .int .i64 x.f1] := by
  obtain ⟨_, _, rfl, rfl, rfl⟩ := h
  exact rfl
theorem k56_mk (w : World) (x : S56)  : k56.K w x [.int .i64 x.f0, .int .i64 x.f1] := ⟨[.int .i64 x.f0], [.int .i64 x.f1], rfl, rfl, rfl⟩
theorem k56_mkM (w : World) (base : Nat) (ok : Nat → Prop) (x : S56)  : k56.M w base ok x [.int .i64 x.f0, .int .i64 x.f1] := ⟨[.int .i64 x.f0], [.int .i64 x.f1], rfl, rfl, rfl⟩
/-! #### struct type 58 -/
structure S58 where
  f0 : Int
  f1 : Int
  f2 : S56
def z58 : S58 := ⟨(0 : Int), (0 : Int), z56⟩
def k58 : Kd S58 := Kd.iso (Kd.pair (Kd.int .i64) (Kd.pair (Kd.int .i64) k56)) (fun x : S58 => (x.f0, x.f1, x.f2))
theorem k58_open {w : World} {x : S58} {cs : List Value} (h : k58.K w x cs) : cs = [.int .i64 x.f0, .int .i64 x.f1, .int .i64 x.f2.f0, .int .i64 x.f2.f1] := by
  obtain ⟨_, _, rfl, rfl, ⟨_, _, rfl, rfl, s2⟩⟩ := h
  obtain rfl := k56_open s2
  exact rfl
theorem k58_mk (w : World) (x : S58)  : k58.K w x [.int .i64 x.f0, .int .i64 x.f1, .int .i64 x.f2.f0, .int .i64 x.f2.f1] := ⟨[.int .i64 x.f0], [.int .i64 x.f1, .int .i64 x.f2.f0, .int .i64 x.f2.f1], rfl, rfl, ⟨[.int .i64 x.f1], [.int .i64 x.f2.f0, .int .i64 x.f2.f1], rfl, rfl, (k56_mk w x.f2 )⟩⟩
theorem k58_mkM (w : World) (base : Nat) (ok : Nat → Prop) (x : S58)  : k58.M w base ok x [.int .i64 x.f0, .int .i64 x.f1, .int .i64 x.f2.f0, .int .i64 x.f2.f1] := ⟨[.int .i64 x.f0], [.int .i64 x.f1, .int .i64 x.f2.f0, .int .i64 x.f2.f1], rfl, rfl, ⟨[.int .i64 x.f1], [.int .i64 x.f2.f0, .int .i64 x.f2.f1], rfl, rfl, (k56_mkM w base ok x.f2 )⟩⟩
def rd_T58 (xs : List S58) (i : Int) : S58 := xs.getD i.toNat z58
theorem at_T58 {w : World} {A : Option Addr} {n : Nat} {xs : List S58} (h : Kd.C k58 w A n xs) (i : Int) (h0 : 0 ≤ i) (h1 : i < n) : ∃ ad , A = some ad ∧ w.cell? (ad.add (i.toNat * 4)) = some (.int .i64 (rd_T58 xs i).f0) ∧ w.cell? ⟨(ad.add (i.toNat * 4)).block, (ad.add (i.toNat * 4)).off + 1, none⟩ = some (.int .i64 (rd_T58 xs i).f1) ∧ w.cell? ⟨(ad.add (i.toNat * 4)).block, (ad.add (i.toNat * 4)).off + 2, none⟩ = some (.int .i64 (rd_T58 xs i).f2.f0) ∧ w.cell? ⟨(ad.add (i.toNat * 4)).block, (ad.add (i.toNat * 4)).off + 3, none⟩ = some (.int .i64 (rd_T58 xs i).f2.f1) := by
  obtain ⟨ad, c, e, _, hK, hc0⟩ := Kd.C_get h z58 i h0 h1
  have hc : ∀ j u, c[j]? = some u → w.cell? (ad.add (i.toNat * 4 + j)) = some u := hc0
  obtain rfl := k58_open hK
  exact ⟨ad, e, hc 0 _ rfl, by rw [← add_field _ _ 1 (by omega)]; exact hc 1 _ rfl, by rw [← add_field _ _ 2 (by omega)]; exact hc 2 _ rfl, by rw [← add_field _ _ 3 (by omega)]; exact hc 3 _ rfl⟩

/-! #### struct type 26 -/
structure S26 where
  f0 : Int
  f1 : Int
def z26 : S26 := ⟨(0 : Int), (0 : Int)⟩
def k26 : Kd S26 := Kd.iso (Kd.pair (Kd.int .i64) (Kd.int .i64)) (fun x : S26 => (x.f0, x.f1))
theorem k26_open {w : World} {x : S26} {cs : List Value} (h : k26.K w x cs) : cs = [.int .i64 x.f0, .int .i64 x.f1] := by
  obtain ⟨_, _, rfl, rfl, rfl⟩ := h
  exact rfl
theorem k26_mk (w : World) (x : S26)  : k26.K w x [.int .i64 x.f0, .int .i64 x.f1] := ⟨[.int .i64 x.f0], [.int .i64 x.f1], rfl, rfl, rfl⟩
theorem k26_mkM (w : World) (base : Nat) (ok : Nat → Prop) (x : S26)  : k26.M w base ok x [.int .i64 x.f0, .int .i64 x.f1] := ⟨[.int .i64 x.f0], [.int .i64 x.f1], rfl, rfl, rfl⟩
def rd_T26 (xs : List S26) (i : Int) : S26 := xs.getD i.toNat z26
theorem at_T26 {w : World} {A : Option Addr} {n : Nat} {xs : List S26} (h : Kd.C k26 w A n xs) (i : Int) (h0 : 0 ≤ i) (h1 : i < n) : ∃ ad , A = some ad ∧ w.cell? (ad.add (i.toNat * 2)) = some (.int .i64 (rd_T26 xs i).f0) ∧ w.cell? ⟨(ad.add (i.toNat * 2)).block, (ad.add (i.toNat * 2)).off + 1, none⟩ = some (.int .i64 (rd_T26 xs i).f1) := by
  obtain ⟨ad, c, e, _, hK, hc0⟩ := Kd.C_get h z26 i h0 h1
  have hc : ∀ j u, c[j]? = some u → w.cell? (ad.add (i.toNat * 2 + j)) = some u := hc0
  obtain rfl := k26_open hK
  exact ⟨ad, e, hc 0 _ rfl, by rw [← add_field _ _ 1 (by omega)]; exact hc 1 _ rfl⟩

end Go.Proofs.Ytfhmepdbbhcncaa.P

namespace Go.Proofs.YtfhmepdbbhcncaaK
open Go.RowKit Go.ChangeShapes Go.WideShapes Go.Deep Go.Joins Go.Proofs.YtfhmepdbbhcncaaW.PrintWords Go.Proofs.YtfhmepdbbhcncaaW.PrintLast Go.Proofs.YtfhmepdbbhcncaaW.PrintMore

/-- What the cells of a type read as: a value of the kind d, which is ok. -/
def Opens {α : Type} (P : Program) (t : TypeId) (d : Kd α) (ok : α → Prop) : Prop :=
  ∀ (H : Type) (enc : TypeId × Value → H) (w : World) (base : Nat) (spare : Nat → Bool) (held : Bool) (fuel : Nat) (cs : List Value) (x : DataW H × List MemPlace), DataW.trod enc P w base spare held fuel t cs = some x → ∃ a, d.K w a cs ∧ ok a
theorem Opens.int {P : Program} {t : TypeId} {k : IntKind} (ht : P.underlying t = some (.int k)) : Opens P t (Kd.int k) (fun n => (Lit.int k n).wf = true) := by
  intro H enc w base spare held fuel cs x h
  obtain ⟨n, rfl, _, hw⟩ := DataW.trod_int ht h
  exact ⟨n, rfl, hw⟩
/-- Two fields side by side. -/
theorem opens_two {α β γ : Type} {P : Program} {t t0 t1 : TypeId} {d0 : Kd α} {d1 : Kd β} {ok0 : α → Prop} {ok1 : β → Prop} {fs : Array Field} {s0 s1 : Nat} (ht : P.underlying t = some (.struct fs))
    (f0 : fs[0]?.map (fun f => (f.type, f.offset)) = some (t0, 0)) (f1 : fs[1]?.map (fun f => (f.type, f.offset)) = some (t1, s0)) (c0 : P.cellsOf t0 = s0) (c1 : P.cellsOf t1 = s1) (hC : P.cellsOf t = s0 + s1) (h0 : Opens P t0 d0 ok0) (h1 : Opens P t1 d1 ok1)
    (d : Kd γ) (ok : γ → Prop) (hd : ∀ w a b x y, d0.K w a x → d1.K w b y → ok0 a → ok1 b → ∃ g, d.K w g (x ++ y) ∧ ok g) : Opens P t d ok := by
  intro H enc w base spare held fuel cs x h
  obtain ⟨xs, n, _, _, hl, hxl, hf⟩ := DataW.trod_struct ht h
  cases e0 : fs[0]? with
  | none => simp [e0] at f0
  | some g0 =>
    cases e1 : fs[1]? with
    | none => simp [e1] at f1
    | some g1 =>
      simp only [e0, e1, Option.map_some, Option.some.injEq, Prod.mk.injEq] at f0 f1
      have hs : 1 < fs.size := (Array.getElem?_eq_some_iff.1 e1).1
      have r0 := hf 0 g0 e0
      have r1 := hf 1 g1 e1
      rw [f0.1, f0.2, c0] at r0
      rw [f1.1, f1.2, c1] at r1
      rw [List.getElem?_eq_getElem (by omega)] at r0 r1
      obtain ⟨a, ka, oa⟩ := h0 H enc w base spare held n _ _ r0
      obtain ⟨b, kb, ob⟩ := h1 H enc w base spare held n _ _ r1
      obtain ⟨g, kg, og⟩ := hd w a b _ _ ka kb oa ob
      have : (cs.drop 0).take s0 ++ (cs.drop s0).take s1 = cs := by
        rw [List.drop_zero, List.take_of_length_le (l := cs.drop s0) (by rw [List.length_drop]; omega), List.take_append_drop]
      rw [this] at kg
      exact ⟨g, kg, og⟩
theorem opens_three {α β δ γ : Type} {P : Program} {t t0 t1 t2 : TypeId} {d0 : Kd α} {d1 : Kd β} {d2 : Kd δ} {ok0 : α → Prop} {ok1 : β → Prop} {ok2 : δ → Prop} {fs : Array Field} {s0 s1 s2 : Nat} (ht : P.underlying t = some (.struct fs))
    (f0 : fs[0]?.map (fun f => (f.type, f.offset)) = some (t0, 0)) (f1 : fs[1]?.map (fun f => (f.type, f.offset)) = some (t1, s0)) (f2 : fs[2]?.map (fun f => (f.type, f.offset)) = some (t2, s0 + s1)) (c0 : P.cellsOf t0 = s0) (c1 : P.cellsOf t1 = s1) (c2 : P.cellsOf t2 = s2) (hC : P.cellsOf t = s0 + s1 + s2) (h0 : Opens P t0 d0 ok0) (h1 : Opens P t1 d1 ok1) (h2 : Opens P t2 d2 ok2)
    (d : Kd γ) (ok : γ → Prop) (hd : ∀ w a b c x y z, d0.K w a x → d1.K w b y → d2.K w c z → ok0 a → ok1 b → ok2 c → ∃ g, d.K w g (x ++ (y ++ z)) ∧ ok g) : Opens P t d ok := by
  intro H enc w base spare held fuel cs x h
  obtain ⟨xs, n, _, _, hl, hxl, hf⟩ := DataW.trod_struct ht h
  cases e0 : fs[0]? with
  | none => simp [e0] at f0
  | some g0 =>
    cases e1 : fs[1]? with
    | none => simp [e1] at f1
    | some g1 =>
      cases e2 : fs[2]? with
      | none => simp [e2] at f2
      | some g2 =>
        simp only [e0, e1, e2, Option.map_some, Option.some.injEq, Prod.mk.injEq] at f0 f1 f2
        have hs : 2 < fs.size := (Array.getElem?_eq_some_iff.1 e2).1
        have r0 := hf 0 g0 e0
        have r1 := hf 1 g1 e1
        have r2 := hf 2 g2 e2
        rw [f0.1, f0.2, c0] at r0
        rw [f1.1, f1.2, c1] at r1
        rw [f2.1, f2.2, c2] at r2
        rw [List.getElem?_eq_getElem (by omega)] at r0 r1 r2
        obtain ⟨a, ka, oa⟩ := h0 H enc w base spare held n _ _ r0
        obtain ⟨b, kb, ob⟩ := h1 H enc w base spare held n _ _ r1
        obtain ⟨c, kc, oc⟩ := h2 H enc w base spare held n _ _ r2
        obtain ⟨g, kg, og⟩ := hd w a b c _ _ _ ka kb kc oa ob oc
        have : (cs.drop 0).take s0 ++ ((cs.drop s0).take s1 ++ (cs.drop (s0 + s1)).take s2) = cs := by
          have e : (cs.drop (s0 + s1)).take s2 = (cs.drop s0).drop s1 := by
            rw [List.drop_drop, List.take_of_length_le (by rw [List.length_drop]; omega)]
          rw [e, List.take_append_drop, List.drop_zero, List.take_append_drop]
        rw [this] at kg
        exact ⟨g, kg, og⟩
/-- A slice of what opens, from its one cell. -/
theorem opens_slice {α : Type} {P : Program} {t e : TypeId} {d : Kd α} {ok : α → Prop} (ht : P.underlying t = some (.slice e)) (hc : P.cellsOf e = d.sz) (he : Opens P e d ok)
    {H : Type} {enc : TypeId × Value → H} {w : World} {base : Nat} {spare : Nat → Bool} {held : Bool} {fuel : Nat} {cs : List Value} {x : DataW H × List MemPlace} (h : DataW.trod enc P w base spare held fuel t cs = some x) :
    ∃ (A : Option Addr) (c : Nat) (l : List α), cs = [.slice A l.length c] ∧ l.length ≤ c ∧ d.C w A l.length l ∧ ∀ a ∈ l, ok a := by
  rcases open_slice ht h with ⟨rfl, _⟩ | ⟨a, len, cap, m, n, D, Pl, rfl, hb, hl, hm, hmm, _, hx⟩
  · exact ⟨none, 0, [], rfl, Nat.le_refl _, ⟨rfl, by simp, fun h => absurd h (by simp)⟩, by simp⟩
  · have hle : len ≤ m := by rw [hmm]; split <;> omega
    have hex : ∀ i, i < len → ∃ y : α, ok y ∧ ∃ cs', cs'.length = d.sz ∧ d.K w y cs' ∧ ∀ j u, cs'[j]? = some u → w.cell? (a.add (i * d.sz + j)) = some u := by
      intro i hi
      obtain ⟨cs', h1, h2⟩ := hx i (by omega)
      obtain ⟨y, ky, oy⟩ := he H enc w base spare held n _ _ h2
      obtain ⟨_, hlen, hcell⟩ := World.cells?_some h1
      rw [hc] at hlen hcell
      refine ⟨y, oy, cs', hlen, ky, fun j u hu => ?_⟩
      have hj : j < d.sz := by
        have := (List.getElem?_eq_some_iff.1 hu).1
        omega
      have := hcell j hj
      rw [Go.Deep.add_add] at this
      rw [this, hu]
    have key : ∀ N, N ≤ len → ∃ l : List α, l.length = N ∧ (∀ y ∈ l, ok y) ∧ ∀ j p, l[j]? = some p → ∃ c, c.length = d.sz ∧ d.K w p c ∧ ∀ i u, c[i]? = some u → w.cell? (a.add (j * d.sz + i)) = some u := by
      intro N
      induction N with
      | zero => exact fun _ => ⟨[], rfl, by simp, fun j p h => by simp at h⟩
      | succ N ih =>
        intro hN
        obtain ⟨l, hl1, hl2, hl3⟩ := ih (by omega)
        obtain ⟨y, oy, cs', hs, ky, hcell⟩ := hex N (by omega)
        refine ⟨l ++ [y], by simp [hl1], fun z hz => ?_, fun j p hj => ?_⟩
        · rcases List.mem_append.1 hz with hz | hz
          · exact hl2 z hz
          · rw [List.mem_singleton] at hz; subst hz; exact oy
        · by_cases hjl : j < l.length
          · rw [List.getElem?_append_left hjl] at hj
            exact hl3 j p hj
          · rw [List.getElem?_append_right (by omega)] at hj
            have hj0 : j - l.length = 0 := by
              have := (List.getElem?_eq_some_iff.1 hj).1
              simp at this
              omega
            rw [hj0] at hj
            simp only [List.getElem?_cons_zero, Option.some.injEq] at hj
            subst hj
            have : j = N := by omega
            subst this
            exact ⟨cs', hs, ky, hcell⟩
    obtain ⟨l, hl1, hl2, hl3⟩ := key len (Nat.le_refl _)
    subst hl1
    refine ⟨some a, cap, l, rfl, hl, ⟨rfl, ?_, fun _ => ⟨a, rfl, hl3⟩⟩, hl2⟩
    have : maxLen = 9223372036854775807 := rfl
    omega
theorem arg_lt {P : Program} {H : Type} {enc : TypeId × Value → H} {w : World} {base : Nat} {spare : Nat → Bool} {held : Bool} {t : TypeId} {v : Value} {dd : DataW H} {p : List MemPlace} (h : DataW.Trod enc P w base spare held t v dd p) : ∀ x ∈ p, x.block < w.heap.size := by
  obtain ⟨m, hm⟩ := h
  exact DataW.trod_lt m _ _ _ hm
end Go.Proofs.YtfhmepdbbhcncaaK

namespace Go.Proofs.Ytfhmepdbbhcncaa.P
open Go.RowKit Go.ChangeShapes Go.WideShapes Go.Deep Go.Joins Go.Proofs.YtfhmepdbbhcncaaW.PrintWords Go.Proofs.YtfhmepdbbhcncaaW.PrintLast Go.Proofs.YtfhmepdbbhcncaaW.PrintMore Go.Proofs.YtfhmepdbbhcncaaK
set_option maxRecDepth 100000

/-- A whole number that Go's int64 holds. -/
def I64 (n : Int) : Prop := (Lit.int .i64 n).wf = true
/-- All numbers of a move are of that kind. -/
structure MovW (m : S58) : Prop where
  f0 : I64 m.f0
  f1 : I64 m.f1
  lo : I64 m.f2.f0
  hi : I64 m.f2.f1
theorem opens2 : Opens Try.prog 2 (Kd.int .i64) I64 := Opens.int Try.underlying2
theorem opens3 : Opens Try.prog 3 (Kd.int .i64) I64 := Opens.int Try.underlying3
theorem opens56 : Opens Try.prog 56 k56 (fun x => I64 x.f0 ∧ I64 x.f1) :=
  opens_two (s0 := 1) (s1 := 1) Try.underlying56 rfl rfl (by kernel_rfl) (by kernel_rfl) (by kernel_rfl) opens2 opens2 _ _ (fun w a b x y ha hb oa ob => ⟨⟨a, b⟩, ⟨x, y, rfl, ha, hb⟩, oa, ob⟩)
theorem opens58 : Opens Try.prog 58 k58 MovW :=
  opens_three (s0 := 1) (s1 := 1) (s2 := 2) Try.underlying58 rfl rfl rfl (by kernel_rfl) (by kernel_rfl) (by kernel_rfl) (by kernel_rfl) opens3 opens3 opens56 _ _ (fun w a b c x y z ha hb hc oa ob oc => ⟨⟨a, b, c⟩, ⟨x, y ++ z, rfl, ha, ⟨y, z, rfl, hb, hc⟩⟩, oa, ob, oc.1, oc.2⟩)
/-- A yard that was passed. -/
theorem arg_yard {H : Type} {enc : TypeId × Value → H} {w : World} {r : Reach} {b0 : Nat} {spare : Nat → Bool} {v : Value} {dd : DataW H} {p : List MemPlace} (hv : Value.okWide Try.prog w r b0 24 v) (h : DataW.Trod enc Try.prog w 0 spare true 24 v dd p) :
    ∃ (a : Int) (A : Option Addr) (c : Nat) (l : List S58), v = .agg #[.int .i64 a, .slice A l.length c] ∧ I64 a ∧ l.length ≤ c ∧ Kd.C k58 w A l.length l ∧ ∀ m ∈ l, MovW m := by
  obtain ⟨v0, v1, y0, y1, n, rfl, rfl, rfl, h0, h1⟩ := open_agg2 Try.underlying24 (by kernel_rfl) (by kernel_rfl) hv h
  obtain ⟨a, e0, _, wa⟩ := DataW.trod_int Try.underlying3 h0
  obtain ⟨A, c, l, e1, hl, hC, hok⟩ := opens_slice (d := k58) Try.underlying22 (by kernel_rfl) opens58 h1
  simp only [List.cons.injEq, and_true] at e0 e1
  subst e0 e1
  exact ⟨a, A, c, l, rfl, wa, hl, hC, hok⟩
/-- A start that was passed. -/
theorem arg_start {H : Type} {enc : TypeId × Value → H} {w : World} {r : Reach} {b0 : Nat} {spare : Nat → Bool} {v : Value} {dd : DataW H} {p : List MemPlace} (hv : Value.okWide Try.prog w r b0 26 v) (h : DataW.Trod enc Try.prog w 0 spare true 26 v dd p) :
    ∃ (a b : Int), v = .agg #[.int .i64 a, .int .i64 b] ∧ I64 a ∧ I64 b := by
  obtain ⟨v0, v1, y0, y1, n, rfl, rfl, rfl, h0, h1⟩ := open_agg2 Try.underlying26 (by kernel_rfl) (by kernel_rfl) hv h
  obtain ⟨a, e0, _, wa⟩ := DataW.trod_int Try.underlying3 h0
  obtain ⟨b, e1, _, wb⟩ := DataW.trod_int Try.underlying2 h1
  simp only [List.cons.injEq, and_true] at e0 e1
  subst e0 e1
  exact ⟨a, b, rfl, wa, wb⟩
end Go.Proofs.Ytfhmepdbbhcncaa.P

namespace Go.Proofs.Ytfhmepdbbhcncaa.P
open Go.RowKit Go.ChangeShapes Go.WideShapes Go.Deep Go.Joins Go.Proofs.YtfhmepdbbhcncaaW.PrintWords Go.Proofs.YtfhmepdbbhcncaaW.PrintLast Go.Proofs.YtfhmepdbbhcncaaW.PrintMore Go.Proofs.YtfhmepdbbhcncaaK
set_option maxRecDepth 100000
theorem rng_u8 {a : Int} (w : (Lit.int .u8 a).wf = true) : 0 ≤ a ∧ a ≤ 255 := by
  have h : (0 : Int) ≤ a ∧ a ≤ 255 := by simpa [Lit.wf, IntKind.min, IntKind.max, IntKind.signed, IntKind.bits] using w
  exact h
theorem rng_u32 {a : Int} (w : (Lit.int .u32 a).wf = true) : 0 ≤ a ∧ a ≤ 4294967295 := by
  have h : (0 : Int) ≤ a ∧ a ≤ 4294967295 := by simpa [Lit.wf, IntKind.min, IntKind.max, IntKind.signed, IntKind.bits] using w
  exact h
end Go.Proofs.Ytfhmepdbbhcncaa.P

namespace Go.Proofs.Ytfhmepdbbhcncaa.P
open Go.RowKit Go.ChangeShapes Go.WideShapes Go.Deep Go.Joins Go.Proofs.YtfhmepdbbhcncaaW.PrintWords Go.Proofs.YtfhmepdbbhcncaaW.PrintLast Go.Proofs.YtfhmepdbbhcncaaW.PrintMore Go.Proofs.YtfhmepdbbhcncaaK
set_option maxRecDepth 100000
/-- An array of two numbers that was passed. -/
theorem arg_arr2 {H : Type} {enc : TypeId × Value → H} {w : World} {r : Reach} {b0 : Nat} {spare : Nat → Bool} {v : Value} {dd : DataW H} {p : List MemPlace} (hv : Value.okWide Try.prog w r b0 70 v) (h : DataW.Trod enc Try.prog w 0 spare true 70 v dd p) :
    ∃ (a b : Int), v = .agg #[.int .u32 a, .int .u32 b] ∧ (0 ≤ a ∧ a ≤ 4294967295) ∧ (0 ≤ b ∧ b ≤ 4294967295) := by
  have hu : Try.prog.underlying 70 = some (.array 2 60) := by kernel_rfl
  have hc : Try.prog.cellsOf 60 = 1 := by kernel_rfl
  simp only [Value.okWide, hu] at hv
  obtain ⟨cs, rfl, hsz, _⟩ := hv
  obtain ⟨c0, c1, rfl⟩ := array2 (hsz.trans (by kernel_rfl))
  obtain ⟨fuel, hf⟩ := h
  obtain ⟨xs, m, _, hx, _, hl, he⟩ := DataW.trod_array hu hf
  obtain ⟨y0, y1, rfl⟩ : ∃ y0 y1, xs = [y0, y1] := by
    rcases xs with _ | ⟨y0, _ | ⟨y1, _ | ⟨y2, xs⟩⟩⟩
    · simp at hl
    · simp at hl
    · exact ⟨y0, y1, rfl⟩
    · simp at hl
  have h0 := he 0 (by omega)
  have h1 := he 1 (by omega)
  rw [hc] at h0 h1
  obtain ⟨a, e0, _, wa⟩ := DataW.trod_int Try.underlying60 (show DataW.trod enc Try.prog w 0 spare true m 60 [c0] = some y0 from h0)
  obtain ⟨b, e1, _, wb⟩ := DataW.trod_int Try.underlying60 (show DataW.trod enc Try.prog w 0 spare true m 60 [c1] = some y1 from h1)
  simp only [List.cons.injEq, and_true] at e0 e1
  subst e0 e1
  exact ⟨a, b, rfl, rng_u32 wa, rng_u32 wb⟩
end Go.Proofs.Ytfhmepdbbhcncaa.P

namespace Go.Proofs.Ytfhmepdbbhcncaa.P
open Go.RowKit Go.Proofs.YtfhmepdbbhcncaaW.PrintWords Go.Proofs.YtfhmepdbbhcncaaW.PrintLast Go.Proofs.YtfhmepdbbhcncaaW.PrintMore
set_option linter.unusedVariables false
set_option linter.unusedSimpArgs false

/-- What is asked of a function value that answers a bool: it answers p x, and leaves what was there. -/
def PredB {α : Type} (g : Nat) (lb : Array Value) (enc : α → Value) (p : α → Bool) (w : World) : Prop :=
  ∀ (W : World) (x : α), Below w.heap.size w W → Calls Try.prog g (#[enc x] ++ lb) W fun e w' => e = .returned (.bool (p x)) ∧ Below W.heap.size W w'

def idxP {α : Type} (p : α → Bool) (l : List α) : Int := match l.findIdx? p with | some i => (i : Int) | none => -1

theorem idxP_hit {α : Type} (p : α → Bool) (l : List α) (i : Nat) (hi : i < l.length) (h0 : ∀ j (hj : j < l.length), j < i → p l[j] = false) (h1 : p l[i] = true) : idxP p l = (i : Int) := by
  have : l.findIdx? p = some i := by
    rw [List.findIdx?_eq_some_iff_getElem]
    exact ⟨hi, h1, fun j hj => by simp [h0 j (by omega) hj]⟩
  simp [idxP, this]
theorem idxP_miss {α : Type} (p : α → Bool) (l : List α) (h0 : ∀ j (hj : j < l.length), p l[j] = false) : idxP p l = -1 := by
  have : l.findIdx? p = none := by
    rw [List.findIdx?_eq_none_iff]
    intro x hx
    obtain ⟨j, hj, rfl⟩ := List.mem_iff_getElem.1 hx
    exact h0 j hj
  simp [idxP, this]
theorem idxP_any {α : Type} (p : α → Bool) (l : List α) : decide (0 ≤ idxP p l) = l.any p := by
  unfold idxP
  cases h : l.findIdx? p with
  | some i =>
    have : l.any p = true := by
      rw [List.findIdx?_eq_some_iff_getElem] at h
      obtain ⟨hi, h1, _⟩ := h
      exact List.any_eq_true.2 ⟨l[i], List.getElem_mem hi, h1⟩
    rw [this]; simp
  | none =>
    have : l.any p = false := by
      rw [List.findIdx?_eq_none_iff] at h
      rw [List.any_eq_false]
      intro x hx; simpa using h x hx
    rw [this]; simp
theorem rd_nat (l : List Int) (i : Nat) (hi : i < l.length) : rd l (i : Int) = l[i] := by
  simp [rd, hi]
theorem rd_T58_nat (l : List S58) (i : Nat) (hi : i < l.length) : rd_T58 l (i : Int) = l[i] := by
  simp [rd_T58, hi]
theorem kdC_int {w : World} {b : Nat} (xs : List Int) (hl : xs.length ≤ 9223372036854775807) (h : ∀ j (hj : j < xs.length), w.cell? ⟨b, j, none⟩ = some (.int .i64 xs[j])) : Kd.C (Kd.int .i64) w (some ⟨b, 0, none⟩) xs.length xs :=
  Kd.C_of_reads (enc := Value.int .i64) (d := (0 : Int)) (h1 := fun _ => rfl) ⟨rfl, hl, fun _ => ⟨_, rfl, fun j hj => by
    have := h j hj
    have e : (⟨b, 0, none⟩ : Addr).add j = ⟨b, j, none⟩ := by simp [Addr.add]; intro h0; rw [h0]
    rw [e, this]
    simp [hj]⟩⟩
theorem kdC_one {w : World} {b : Nat} {x : Int} (h : w.cell? ⟨b, 0, none⟩ = some (.int .i64 x)) : Kd.C (Kd.int .i64) w (some ⟨b, 0, none⟩) 1 [x] :=
  kdC_int [x] (by simp) (fun j hj => by
    obtain rfl : j = 0 := by simp at hj; omega
    exact h)
theorem kdC_two {w : World} {b : Nat} {x y : Int} (h : w.cell? ⟨b, 0, none⟩ = some (.int .i64 x)) (h' : w.cell? ⟨b, 1, none⟩ = some (.int .i64 y)) : Kd.C (Kd.int .i64) w (some ⟨b, 0, none⟩) 2 [x, y] :=
  kdC_int [x, y] (by simp) (fun j hj => by
    rcases j with _ | _ | j
    · exact h
    · exact h'
    · exfalso; simp at hj; omega)
def enc58 (m : S58) : Value := .agg #[.int .i64 m.f0, .int .i64 m.f1, .int .i64 m.f2.f0, .int .i64 m.f2.f1]

set_option maxHeartbeats 1000000 in
set_option maxRecDepth 100000 in
theorem IndexFunc75 (g : Nat) (lb : Array Value) (p : Int → Bool) (A : Option Addr) (c : Nat) (l : List (Int)) (w : World)
    (eg : ∀ args w, (callFunc g args).run Try.prog w = .ok (.enter g args) w)
    (hr : Kd.C (Kd.int .i64) w A l.length l) (hp : PredB g lb (Value.int .i64) p w) :
    Calls Try.prog 75 #[.slice A l.length c, .func (.func g) #[] lb] w fun e w' => e = .returned (.int .i64 (idxP p l)) ∧ Below w.heap.size w w' := by
  have HR0 := Aside0.mk hr
  have HP := Aside0.mk hp
  have HL := Aside0.mk hr.2.1
  clear hr hp
  go_enter Try.func75, Try.ntmps75
  go_wp2
  go_loopg [8] l.length (fun kq v8 w' => ∃ i : Nat, v8 = .int .i64 i ∧ Aside0 (i + kq = l.length) ∧ Aside0 (∀ j (hj : j < l.length), j < i → p l[j] = false) ∧ Aside0 (Below w.heap.size w w'))
  case atStart => exact ⟨0, rfl, ⟨by omega⟩, ⟨fun j hj h => absurd h (by omega)⟩, ⟨Below.refl _ _⟩⟩
  case round =>
    obtain ⟨i, rfl, HI, HN, HB⟩ := hrel
    cases gk with
    | zero =>
      have hi : i = l.length := by have := HI.out; omega
      have hlt : decide (i < l.length) = false := by rw [hi]; simp
      go_wp2
      go_ret
      refine ⟨?_, HB.out⟩
      rw [idxP_miss p l (fun j hj => HN.out j hj (by omega))]
      rfl
    | succ k1 =>
      have hi : i < l.length := by have := HI.out; omega
      have hlt : decide (i < l.length) = true := by simp [hi]
      have hC := Kd.C_below HR0.out HB.out
      obtain ⟨ad, e0, hc0⟩ := Kd.at_int hC (i : Int) (by omega) (by omega)
      cases e0
      rw [Int.toNat_natCast] at hc0
      have hpp := Lib.hid (HP.out wr (rd l (i : Int)) HB.out)
      have hle := HL.out
      clear hC
      go_wp2_with (go_at_fn g; refine (hpp.out).mono ?_; rintro e w' ⟨rfl, hb⟩)
      · have hpx : p (rd l (i : Int)) = true := by assumption
        have hpi : p l[i] = true := by rwa [rd_nat l i hi] at hpx
        go_ret
        exact ⟨by rw [idxP_hit p l i hi (fun j hj h => HN.out j hj h) hpi]; rfl, HB.out.trans (hb.mono HB.out.size)⟩
      · have hpx : p (rd l (i : Int)) = false := by assumption
        have hpi : p l[i] = false := by rwa [rd_nat l i hi] at hpx
        go_roundg k1
        case rel => exact ⟨i + 1, by go_num, ⟨by have := HI.out; omega⟩, ⟨fun j hj h => by
          by_cases e : j = i
          · subst e; exact hpi
          · exact HN.out j hj (by omega)⟩, ⟨HB.out.trans (hb.mono HB.out.size)⟩⟩
        case measure => omega

set_option maxHeartbeats 400000 in
set_option maxRecDepth 100000 in
theorem ContainsFunc58 (g : Nat) (lb : Array Value) (p : Int → Bool) (A : Option Addr) (c : Nat) (l : List (Int)) (w : World)
    (eg : ∀ args w, (callFunc g args).run Try.prog w = .ok (.enter g args) w)
    (hr : Kd.C (Kd.int .i64) w A l.length l) (hp : PredB g lb (Value.int .i64) p w) :
    Calls Try.prog 58 #[.slice A l.length c, .func (.func g) #[] lb] w fun e w' => e = .returned (.bool (l.any p)) ∧ Below w.heap.size w w' := by
  have H := Lib.hid (IndexFunc75 g lb p A c l w eg hr hp)
  have HQ := Lib.hid (idxP_any p l)
  clear hr hp eg
  go_enter Try.func58, Try.ntmps58
  go_wp2_with (go_at_call 75; refine (H.out).mono ?_; rintro e w' ⟨rfl, hb⟩)
  go_ret
  exact ⟨by rw [← HQ.out]; rfl, hb⟩

set_option maxHeartbeats 1000000 in
set_option maxRecDepth 100000 in
theorem IndexFunc74 (g : Nat) (lb : Array Value) (p : Int → Bool) (A : Option Addr) (c : Nat) (l : List (Int)) (w : World)
    (eg : ∀ args w, (callFunc g args).run Try.prog w = .ok (.enter g args) w)
    (hr : Kd.C (Kd.int .i64) w A l.length l) (hp : PredB g lb (Value.int .i64) p w) :
    Calls Try.prog 74 #[.slice A l.length c, .func (.func g) #[] lb] w fun e w' => e = .returned (.int .i64 (idxP p l)) ∧ Below w.heap.size w w' := by
  have HR0 := Aside0.mk hr
  have HP := Aside0.mk hp
  have HL := Aside0.mk hr.2.1
  clear hr hp
  go_enter Try.func74, Try.ntmps74
  go_wp2
  go_loopg [8] l.length (fun kq v8 w' => ∃ i : Nat, v8 = .int .i64 i ∧ Aside0 (i + kq = l.length) ∧ Aside0 (∀ j (hj : j < l.length), j < i → p l[j] = false) ∧ Aside0 (Below w.heap.size w w'))
  case atStart => exact ⟨0, rfl, ⟨by omega⟩, ⟨fun j hj h => absurd h (by omega)⟩, ⟨Below.refl _ _⟩⟩
  case round =>
    obtain ⟨i, rfl, HI, HN, HB⟩ := hrel
    cases gk with
    | zero =>
      have hi : i = l.length := by have := HI.out; omega
      have hlt : decide (i < l.length) = false := by rw [hi]; simp
      go_wp2
      go_ret
      refine ⟨?_, HB.out⟩
      rw [idxP_miss p l (fun j hj => HN.out j hj (by omega))]
      rfl
    | succ k1 =>
      have hi : i < l.length := by have := HI.out; omega
      have hlt : decide (i < l.length) = true := by simp [hi]
      have hC := Kd.C_below HR0.out HB.out
      obtain ⟨ad, e0, hc0⟩ := Kd.at_int hC (i : Int) (by omega) (by omega)
      cases e0
      rw [Int.toNat_natCast] at hc0
      have hpp := Lib.hid (HP.out wr (rd l (i : Int)) HB.out)
      have hle := HL.out
      clear hC
      go_wp2_with (go_at_fn g; refine (hpp.out).mono ?_; rintro e w' ⟨rfl, hb⟩)
      · have hpx : p (rd l (i : Int)) = true := by assumption
        have hpi : p l[i] = true := by rwa [rd_nat l i hi] at hpx
        go_ret
        exact ⟨by rw [idxP_hit p l i hi (fun j hj h => HN.out j hj h) hpi]; rfl, HB.out.trans (hb.mono HB.out.size)⟩
      · have hpx : p (rd l (i : Int)) = false := by assumption
        have hpi : p l[i] = false := by rwa [rd_nat l i hi] at hpx
        go_roundg k1
        case rel => exact ⟨i + 1, by go_num, ⟨by have := HI.out; omega⟩, ⟨fun j hj h => by
          by_cases e : j = i
          · subst e; exact hpi
          · exact HN.out j hj (by omega)⟩, ⟨HB.out.trans (hb.mono HB.out.size)⟩⟩
        case measure => omega

set_option maxHeartbeats 400000 in
set_option maxRecDepth 100000 in
theorem ContainsFunc53 (g : Nat) (lb : Array Value) (p : Int → Bool) (A : Option Addr) (c : Nat) (l : List (Int)) (w : World)
    (eg : ∀ args w, (callFunc g args).run Try.prog w = .ok (.enter g args) w)
    (hr : Kd.C (Kd.int .i64) w A l.length l) (hp : PredB g lb (Value.int .i64) p w) :
    Calls Try.prog 53 #[.slice A l.length c, .func (.func g) #[] lb] w fun e w' => e = .returned (.bool (l.any p)) ∧ Below w.heap.size w w' := by
  have H := Lib.hid (IndexFunc74 g lb p A c l w eg hr hp)
  have HQ := Lib.hid (idxP_any p l)
  clear hr hp eg
  go_enter Try.func53, Try.ntmps53
  go_wp2_with (go_at_call 74; refine (H.out).mono ?_; rintro e w' ⟨rfl, hb⟩)
  go_ret
  exact ⟨by rw [← HQ.out]; rfl, hb⟩

set_option maxHeartbeats 1000000 in
set_option maxRecDepth 100000 in
theorem IndexFunc71 (g : Nat) (lb : Array Value) (p : S58 → Bool) (A : Option Addr) (c : Nat) (l : List (S58)) (w : World)
    (eg : ∀ args w, (callFunc g args).run Try.prog w = .ok (.enter g args) w)
    (hr : Kd.C k58 w A l.length l) (hp : PredB g lb enc58 p w) :
    Calls Try.prog 71 #[.slice A l.length c, .func (.func g) #[] lb] w fun e w' => e = .returned (.int .i64 (idxP p l)) ∧ Below w.heap.size w w' := by
  have HR0 := Aside0.mk hr
  have HP := Aside0.mk hp
  have HL := Aside0.mk hr.2.1
  clear hr hp
  go_enter Try.func71, Try.ntmps71
  go_wp2
  go_loopg [8] l.length (fun kq v8 w' => ∃ i : Nat, v8 = .int .i64 i ∧ Aside0 (i + kq = l.length) ∧ Aside0 (∀ j (hj : j < l.length), j < i → p l[j] = false) ∧ Aside0 (Below w.heap.size w w'))
  case atStart => exact ⟨0, rfl, ⟨by omega⟩, ⟨fun j hj h => absurd h (by omega)⟩, ⟨Below.refl _ _⟩⟩
  case round =>
    obtain ⟨i, rfl, HI, HN, HB⟩ := hrel
    cases gk with
    | zero =>
      have hi : i = l.length := by have := HI.out; omega
      have hlt : decide (i < l.length) = false := by rw [hi]; simp
      go_wp2
      go_ret
      refine ⟨?_, HB.out⟩
      rw [idxP_miss p l (fun j hj => HN.out j hj (by omega))]
      rfl
    | succ k1 =>
      have hi : i < l.length := by have := HI.out; omega
      have hlt : decide (i < l.length) = true := by simp [hi]
      have hC := Kd.C_below HR0.out HB.out
      obtain ⟨ad, e0, hc0, hc1, hc2, hc3⟩ := at_T58 hC (i : Int) (by omega) (by omega)
      cases e0
      rw [Int.toNat_natCast] at hc0
      rw [Int.toNat_natCast] at hc1
      rw [Int.toNat_natCast] at hc2
      rw [Int.toNat_natCast] at hc3
      have hpp := Lib.hid (HP.out wr (rd_T58 l (i : Int)) HB.out)
      have hle := HL.out
      clear hC
      go_wp2_with (go_at_fn g; refine (hpp.out).mono ?_; rintro e w' ⟨rfl, hb⟩)
      · have hpx : p (rd_T58 l (i : Int)) = true := by assumption
        have hpi : p l[i] = true := by rwa [rd_T58_nat l i hi] at hpx
        go_ret
        exact ⟨by rw [idxP_hit p l i hi (fun j hj h => HN.out j hj h) hpi]; rfl, HB.out.trans (hb.mono HB.out.size)⟩
      · have hpx : p (rd_T58 l (i : Int)) = false := by assumption
        have hpi : p l[i] = false := by rwa [rd_T58_nat l i hi] at hpx
        go_roundg k1
        case rel => exact ⟨i + 1, by go_num, ⟨by have := HI.out; omega⟩, ⟨fun j hj h => by
          by_cases e : j = i
          · subst e; exact hpi
          · exact HN.out j hj (by omega)⟩, ⟨HB.out.trans (hb.mono HB.out.size)⟩⟩
        case measure => omega

set_option maxHeartbeats 400000 in
set_option maxRecDepth 100000 in
theorem ContainsFunc50 (g : Nat) (lb : Array Value) (p : S58 → Bool) (A : Option Addr) (c : Nat) (l : List (S58)) (w : World)
    (eg : ∀ args w, (callFunc g args).run Try.prog w = .ok (.enter g args) w)
    (hr : Kd.C k58 w A l.length l) (hp : PredB g lb enc58 p w) :
    Calls Try.prog 50 #[.slice A l.length c, .func (.func g) #[] lb] w fun e w' => e = .returned (.bool (l.any p)) ∧ Below w.heap.size w w' := by
  have H := Lib.hid (IndexFunc71 g lb p A c l w eg hr hp)
  have HQ := Lib.hid (idxP_any p l)
  clear hr hp eg
  go_enter Try.func50, Try.ntmps50
  go_wp2_with (go_at_call 71; refine (H.out).mono ?_; rintro e w' ⟨rfl, hb⟩)
  go_ret
  exact ⟨by rw [← HQ.out]; rfl, hb⟩
end Go.Proofs.Ytfhmepdbbhcncaa.P

namespace Go.Proofs.Ytfhmepdbbhcncaa.P
open Go.RowKit Go.Proofs.YtfhmepdbbhcncaaW.PrintWords Go.Proofs.YtfhmepdbbhcncaaW.PrintLast Go.Proofs.YtfhmepdbbhcncaaW.PrintMore
set_option linter.unusedVariables false
set_option linter.unusedSimpArgs false

set_option maxHeartbeats 400000 in
set_option maxRecDepth 100000 in
theorem within_lit (w : World) (b1 b2 : Nat) (lo hi : Int) (h1 : b1 < w.heap.size) (h2 : b2 < w.heap.size)
    (c1 : w.cell? ⟨b1, 0, none⟩ = some (.int .i64 lo)) (c2 : w.cell? ⟨b2, 0, none⟩ = some (.int .i64 hi)) :
    PredB 70 #[.pointer (some ⟨b1, 0, none⟩), .pointer (some ⟨b2, 0, none⟩)] (Value.int .i64) (fun n => decide (n < lo) || decide (hi < n)) w := by
  intro W x hb
  have d1 : W.cell? ⟨b1, 0, none⟩ = some (.int .i64 lo) := (hb.cell (p := ⟨b1, 0, none⟩) h1).trans c1
  have d2 : W.cell? ⟨b2, 0, none⟩ = some (.int .i64 hi) := (hb.cell (p := ⟨b2, 0, none⟩) h2).trans c2
  clear c1 c2 hb h1 h2
  show Calls Try.prog 70 #[.int .i64 x, .pointer (some ⟨b1, 0, none⟩), .pointer (some ⟨b2, 0, none⟩)] W _
  by_cases hx : x < lo
  · have t1 : decide (x < lo) = true := by simp [hx]
    go_enter Try.func70, Try.ntmps70
    go_wp2
    go_ret
    exact ⟨by simp [t1], Below.refl _ _⟩
  · have t1 : decide (x < lo) = false := by simp [hx]
    go_enter Try.func70, Try.ntmps70
    go_wp2
    go_ret
    exact ⟨by simp [t1], Below.refl _ _⟩

/-- all numbers from lo to hi -/
def withinB (lo hi : Int) (l : List Int) : Bool := l.all fun n => decide (lo ≤ n) && decide (n ≤ hi)
theorem withinB_eq (lo hi : Int) (l : List Int) : (!l.any fun n => decide (n < lo) || decide (hi < n)) = withinB lo hi l := by
  unfold withinB
  rw [List.all_eq_not_any_not]
  congr 1
  congr 1
  funext n
  rw [Bool.eq_iff_iff]
  simp

set_option maxHeartbeats 400000 in
set_option maxRecDepth 100000 in
theorem within_calls (lo hi : Int) (A : Option Addr) (c : Nat) (l : List Int) (w : World)
    (hr : Kd.C (Kd.int .i64) w A l.length l) :
    Calls Try.prog 49 #[.int .i64 lo, .int .i64 hi, .slice A l.length c] w fun e w' => e = .returned (.bool (withinB lo hi l)) ∧ Below w.heap.size w w' := by
  have HB : Below w.heap.size w ((w.alloc (.cells #[.int .i64 lo] 2)).alloc (.cells #[.int .i64 hi] 2)) := ((Below.refl w.heap.size w).alloc (Nat.le_refl _) _).alloc (by simp) _
  have H := Lib.hid (ContainsFunc58 70 _ _ A c l _ (enters_of Try.func70 (by kernel_rfl) rfl) (Kd.C_below hr HB)
    (within_lit ((w.alloc (.cells #[.int .i64 lo] 2)).alloc (.cells #[.int .i64 hi] 2)) w.heap.size (w.heap.size + 1) lo hi (by simp; omega) (by simp) (by simp) (by simp)))
  have HQ := Lib.hid (withinB_eq lo hi l)
  have HB' := Lib.hid HB
  clear hr HB
  go_enter Try.func49, Try.ntmps49
  go_wp2_with (go_at_call 58; refine (H.out).mono ?_; rintro e w' ⟨rfl, hb⟩)
  go_ret
  exact ⟨by rw [← HQ.out]; rfl, HB'.out.trans (hb.mono HB'.out.size)⟩

theorem within_one (lo hi x : Int) (b : Nat) (c : Nat) (w : World) (h : w.cell? ⟨b, 0, none⟩ = some (.int .i64 x)) :
    Calls Try.prog 49 #[.int .i64 lo, .int .i64 hi, .slice (some ⟨b, 0, none⟩) 1 c] w fun e w' => e = .returned (.bool (withinB lo hi [x])) ∧ Below w.heap.size w w' :=
  within_calls lo hi _ c [x] w (kdC_one h)
theorem within_two (lo hi x y : Int) (b : Nat) (c : Nat) (w : World) (h : w.cell? ⟨b, 0, none⟩ = some (.int .i64 x)) (h' : w.cell? ⟨b, 1, none⟩ = some (.int .i64 y)) :
    Calls Try.prog 49 #[.int .i64 lo, .int .i64 hi, .slice (some ⟨b, 0, none⟩) 2 c] w fun e w' => e = .returned (.bool (withinB lo hi [x, y])) ∧ Below w.heap.size w w' :=
  within_calls lo hi _ c [x, y] w (kdC_two h h')

/-- a move that is not valid, among n vessels -/
def badMove (n : Int) (m : S58) : Bool := !withinB 0 (n - 1) [m.f0, m.f1] || decide (m.f0 = m.f1) || !withinB 0 100000 [m.f2.f0, m.f2.f1] || decide (m.f2.f1 < m.f2.f0)

theorem bcell {w w1 : World} {B : Nat} (hb : Below B w w1) : (∀ b o, b < B → w1.cell? ⟨b, o, none⟩ = w.cell? ⟨b, o, none⟩) ∧ (∀ b o, b < B → w1.frozen? ⟨b, o, none⟩ = w.frozen? ⟨b, o, none⟩) :=
  ⟨fun b o h => hb.cell (p := ⟨b, o, none⟩) h, fun b o h => hb.frozen (p := ⟨b, o, none⟩) h⟩

set_option maxHeartbeats 800000 in
set_option maxRecDepth 100000 in
theorem bad_lit (w : World) (b : Nat) (n : Int) (hn : 1 ≤ n) (hn2 : n ≤ 20) (h1 : b < w.heap.size)
    (c1 : w.cell? ⟨b, 0, none⟩ = some (.int .i64 n)) :
    PredB 48 #[.pointer (some ⟨b, 0, none⟩)] enc58 (badMove n) w := by
  intro W x hb
  have d1 : W.cell? ⟨b, 0, none⟩ = some (.int .i64 n) := (hb.cell (p := ⟨b, 0, none⟩) h1).trans c1
  have hbl : b < W.heap.size := Nat.lt_of_lt_of_le h1 hb.size
  clear c1 hb h1
  rcases x with ⟨f, t, ⟨lo, hi⟩⟩
  show Calls Try.prog 48 #[.agg #[.int .i64 f, .int .i64 t, .int .i64 lo, .int .i64 hi], .pointer (some ⟨b, 0, none⟩)] W _
  cases ha : withinB 0 (n - 1) [f, t]
  · have F := Lib.hid (show badMove n ⟨f, t, ⟨lo, hi⟩⟩ = true by simp [badMove, ha])
    go_enter Try.func48, Try.ntmps48
    go_wp2_with (go_at_call 49; refine (within_two _ _ f t _ _ _ ?_ ?_).mono ?_; (focus (go_simp; done)); (focus (go_simp; done)); rintro e w1 ⟨rfl, hb1⟩; rw [ha])
    go_ret
    exact ⟨by rw [F.out]; rfl, Below.trans (((Below.refl W.heap.size W).alloc (Nat.le_refl _) _).alloc (by simp) _) (hb1.mono (by simp; omega))⟩
  · by_cases hft : f = t
    · have F := Lib.hid (show badMove n ⟨f, t, ⟨lo, hi⟩⟩ = true by simp [badMove, hft])
      have hq : (f == t) = true := by simp [hft]
      clear hft
      go_enter Try.func48, Try.ntmps48
      go_wp2_with (go_at_call 49; refine (within_two _ _ f t _ _ _ ?_ ?_).mono ?_; (focus (go_simp; done)); (focus (go_simp; done)); rintro e w1 ⟨rfl, hb1⟩; rw [ha]; obtain ⟨hc, hf⟩ := bcell hb1)
      go_ret
      exact ⟨by rw [F.out]; rfl, Below.trans (((Below.refl W.heap.size W).alloc (Nat.le_refl _) _).alloc (by simp) _) (hb1.mono (by simp; omega))⟩
    · have hq : (f == t) = false := by simp [hft]
      cases hc2 : withinB 0 100000 [lo, hi]
      · have F := Lib.hid (show badMove n ⟨f, t, ⟨lo, hi⟩⟩ = true by simp [badMove, hc2])
        clear hft
        go_enter Try.func48, Try.ntmps48
        go_wp2_with fail
        refine (within_two _ _ f t _ _ _ ?_ ?_).mono ?_
        focus (go_simp; done)
        focus (go_simp; done)
        rintro e w1 ⟨rfl, hb1⟩
        rw [ha]
        obtain ⟨hc, hf⟩ := bcell hb1
        have hz := hb1.size
        simp only [World.size_alloc] at hz
        go_wp2_with fail
        refine (within_two _ _ lo hi _ _ _ ?_ ?_).mono ?_
        focus (go_simp; done)
        focus (go_simp; done)
        rintro e w2 ⟨rfl, hb2⟩
        rw [hc2]
        clear hc hf
        obtain ⟨hc, hf⟩ := bcell hb2
        go_wp2
        go_ret
        exact ⟨by rw [F.out]; rfl, by
          refine Below.trans (((Below.refl W.heap.size W).alloc (Nat.le_refl _) _).alloc (by simp) _) ((hb1.mono (by simp; omega)).trans ?_)
          exact ((Below.refl _ _).alloc (by omega) _).trans (hb2.mono (by simp; omega))⟩
      · have F := Lib.hid (show badMove n ⟨f, t, ⟨lo, hi⟩⟩ = decide (hi < lo) by simp [badMove, hc2, ha, hft])
        clear hft
        go_enter Try.func48, Try.ntmps48
        go_wp2_with fail
        refine (within_two _ _ f t _ _ _ ?_ ?_).mono ?_
        focus (go_simp; done)
        focus (go_simp; done)
        rintro e w1 ⟨rfl, hb1⟩
        rw [ha]
        obtain ⟨hc, hf⟩ := bcell hb1
        have hz := hb1.size
        simp only [World.size_alloc] at hz
        go_wp2_with fail
        refine (within_two _ _ lo hi _ _ _ ?_ ?_).mono ?_
        focus (go_simp; done)
        focus (go_simp; done)
        rintro e w2 ⟨rfl, hb2⟩
        rw [hc2]
        clear hf
        have e2 : ∀ o, w2.cell? ⟨W.heap.size, o, none⟩ = w1.cell? ⟨W.heap.size, o, none⟩ := fun o => (hb2.cell (p := ⟨W.heap.size, o, none⟩) (by simp; omega)).trans (((Below.refl w1.heap.size w1).alloc (Nat.le_refl _) _).cell (p := ⟨W.heap.size, o, none⟩) (by show W.heap.size < _; omega))
        go_wp2
        go_ret
        exact ⟨by rw [F.out]; rfl, by
          refine Below.trans (((Below.refl W.heap.size W).alloc (Nat.le_refl _) _).alloc (by simp) _) ((hb1.mono (by simp; omega)).trans ?_)
          exact ((Below.refl _ _).alloc (by omega) _).trans (hb2.mono (by simp; omega))⟩

/-- what CheckYard answers -/
def checkYard (n : Int) (l : List S58) : Int :=
  if n < 1 ∨ 20 < n then 2 else if 40 < l.length then 6 else if l.any (badMove n) then 3 else 0

set_option maxHeartbeats 800000 in
set_option maxRecDepth 100000 in
theorem checkYard_calls (a0_0 : Int) (A0_1 : Option Addr) (c0_1 : Nat) (l0_1 : List S58) (w : World) (hr0_1 : Kd.C k58 w A0_1 l0_1.length l0_1) :
    Calls Try.prog 16 #[.agg #[.int .i64 a0_0, .slice A0_1 l0_1.length c0_1]] w fun e w' => e = .returned (.int .i64 (checkYard a0_0 l0_1)) ∧ Below w.heap.size w w' := by
  by_cases h1 : a0_0 < 1
  · have F := Lib.hid (show checkYard a0_0 l0_1 = 2 by simp [checkYard, h1])
    go_enter Try.func16, Try.ntmps16
    go_wp2
    go_ret
    exact ⟨by rw [F.out]; rfl, (Below.refl _ _).alloc (Nat.le_refl _) _⟩
  · by_cases h2 : 20 < a0_0
    · have F := Lib.hid (show checkYard a0_0 l0_1 = 2 by simp [checkYard, h2])
      go_enter Try.func16, Try.ntmps16
      go_wp2
      go_ret
      exact ⟨by rw [F.out]; rfl, (Below.refl _ _).alloc (Nat.le_refl _) _⟩
    · by_cases h3 : 40 < l0_1.length
      · have F := Lib.hid (show checkYard a0_0 l0_1 = 6 by simp [checkYard, h1, h2, h3])
        have t3 : decide (40 < l0_1.length) = true := by simp [h3]
        go_enter Try.func16, Try.ntmps16
        go_wp2
        go_ret
        exact ⟨by rw [F.out]; rfl, (Below.refl _ _).alloc (Nat.le_refl _) _⟩
      · have t3 : decide (40 < l0_1.length) = false := by simp [h3]
        have H := Lib.hid (ContainsFunc50 48 #[.pointer (some ⟨w.heap.size, 0, none⟩)] (badMove a0_0) A0_1 c0_1 l0_1 (w.alloc (.cells #[.int .i64 a0_0, .slice A0_1 l0_1.length c0_1] 24)) (enters_of Try.func48 (by kernel_rfl) rfl)
          (Kd.C_below hr0_1 ((Below.refl _ _).alloc (Nat.le_refl _) _)) (bad_lit _ _ a0_0 (by omega) (by omega) (by simp) (by simp)))
        cases h4 : l0_1.any (badMove a0_0)
        · have F := Lib.hid (show checkYard a0_0 l0_1 = 0 by simp only [checkYard, h1, h2, h3, h4]; simp)
          have G := Lib.hid h4
          clear h4 hr0_1
          go_enter Try.func16, Try.ntmps16
          go_wp2_with (go_at_call 50; refine (H.out).mono ?_; rintro e w1 ⟨rfl, hb1⟩; rw [G.out])
          go_ret
          exact ⟨by rw [F.out]; rfl, ((Below.refl _ _).alloc (Nat.le_refl _) _).trans (hb1.mono (by simp))⟩
        · have F := Lib.hid (show checkYard a0_0 l0_1 = 3 by simp only [checkYard, h1, h2, h3, h4]; simp)
          have G := Lib.hid h4
          clear h4 hr0_1
          go_enter Try.func16, Try.ntmps16
          go_wp2_with (go_at_call 50; refine (H.out).mono ?_; rintro e w1 ⟨rfl, hb1⟩; rw [G.out])
          go_ret
          exact ⟨by rw [F.out]; rfl, ((Below.refl _ _).alloc (Nat.le_refl _) _).trans (hb1.mono (by simp))⟩
end Go.Proofs.Ytfhmepdbbhcncaa.P

namespace Go.Proofs.Ytfhmepdbbhcncaa.P
open Go.RowKit Go.Proofs.YtfhmepdbbhcncaaW.PrintWords Go.Proofs.YtfhmepdbbhcncaaW.PrintLast Go.Proofs.YtfhmepdbbhcncaaW.PrintMore
set_option linter.unusedVariables false
set_option linter.unusedSimpArgs false

/-- is a number a vessel -/
def isV (n v : Int) : Bool := decide (0 ≤ v) && decide (v < n)

set_option maxHeartbeats 400000 in
set_option maxRecDepth 100000 in
theorem is_call (W : World) (b : Nat) (n x : Int) (d1 : W.cell? ⟨b, 0, none⟩ = some (.int .i64 n)) :
    Calls Try.prog 72 #[.int .i64 x, .pointer (some ⟨b, 0, none⟩)] W fun e w' => e = .returned (.bool (isV n x)) ∧ Below W.heap.size W w' := by
  by_cases hx : 0 ≤ x
  · have F := Lib.hid (show isV n x = decide (x < n) by simp [isV, hx])
    go_enter Try.func72, Try.ntmps72
    go_wp2
    go_ret
    exact ⟨by rw [F.out]; rfl, Below.refl _ _⟩
  · have F := Lib.hid (show isV n x = false by simp [isV, hx])
    go_enter Try.func72, Try.ntmps72
    go_wp2
    go_ret
    exact ⟨by rw [F.out]; rfl, Below.refl _ _⟩
theorem is_lit (w : World) (b : Nat) (n : Int) (h1 : b < w.heap.size) (c1 : w.cell? ⟨b, 0, none⟩ = some (.int .i64 n)) :
    PredB 72 #[.pointer (some ⟨b, 0, none⟩)] (Value.int .i64) (isV n) w :=
  fun W x hb => is_call W b n x ((hb.cell (p := ⟨b, 0, none⟩) h1).trans c1)

set_option maxHeartbeats 400000 in
set_option maxRecDepth 100000 in
theorem isnt_lit (w : World) (b b2 : Nat) (n : Int) (h1 : b < w.heap.size) (h2 : b2 < w.heap.size) (c1 : w.cell? ⟨b, 0, none⟩ = some (.int .i64 n))
    (c2 : w.cell? ⟨b2, 0, none⟩ = some (.func (.func 72) #[] #[.pointer (some ⟨b, 0, none⟩)])) :
    PredB 73 #[.pointer (some ⟨b2, 0, none⟩)] (Value.int .i64) (fun v => !isV n v) w := by
  intro W x hb
  have d1 : W.cell? ⟨b2, 0, none⟩ = some (.func (.func 72) #[] #[.pointer (some ⟨b, 0, none⟩)]) := (hb.cell (p := ⟨b2, 0, none⟩) h2).trans c2
  have H := Lib.hid (is_lit W b n (Nat.lt_of_lt_of_le h1 hb.size) ((hb.cell (p := ⟨b, 0, none⟩) h1).trans c1) W x (Below.refl _ _))
  clear c1 c2 hb h1 h2
  show Calls Try.prog 73 #[.int .i64 x, .pointer (some ⟨b2, 0, none⟩)] W _
  go_enter Try.func73, Try.ntmps73
  go_wp2_with (go_at_call 72; refine (H.out).mono ?_; rintro e w1 ⟨rfl, hb1⟩)
  go_ret
  exact ⟨rfl, hb1⟩

/-- the error of open -/
def openE (n : Int) (l : List S58) (sv st : Int) (vs : List Int) : Int :=
  if checkYard n l ≠ 0 then checkYard n l else if isV n sv = false ∨ withinB 0 100000 [st] = false then 2 else if vs.any (fun v => !isV n v) then 3 else 0

theorem boxes2 (w : World) (o1 o2 : Obj) : Below w.heap.size w ((w.alloc o1).alloc o2) := ((Below.refl _ _).alloc (Nat.le_refl _) _).alloc (by simp) _
theorem box1 (w : World) (o1 : Obj) : Below w.heap.size w (w.alloc o1) := (Below.refl _ _).alloc (Nat.le_refl _) _
/-- a cell in a later world -/
theorem cell_in {w w1 : World} {a : Addr} {v : Value} (hb : Below w.heap.size w w1) (h : w.cell? a = some v) : w1.cell? a = some v :=
  (hb.cell (World.block_lt_of_cell? w a h)).trans h
theorem cell_in1 {w w1 : World} {o : Obj} {a : Addr} {v : Value} (hb : Below (w.alloc o).heap.size (w.alloc o) w1) (h : w.cell? a = some v) : w1.cell? a = some v :=
  cell_in hb (cell_in (box1 w o) h)
theorem size1 {w w1 : World} {o : Obj} (hb : Below (w.alloc o).heap.size (w.alloc o) w1) : w.heap.size < w1.heap.size := by
  have := hb.size; simp only [World.size_alloc] at this; omega
theorem size2 {w w1 : World} {o o2 : Obj} (hb : Below ((w.alloc o).alloc o2).heap.size ((w.alloc o).alloc o2) w1) : w.heap.size + 1 < w1.heap.size := by
  have := hb.size; simp only [World.size_alloc] at this; omega
theorem later1 {w w1 : World} {o : Obj} (hb : Below (w.alloc o).heap.size (w.alloc o) w1) : Below w.heap.size w w1 := (box1 w o).trans (hb.mono (by simp))
theorem later2 {w w1 : World} {o o2 : Obj} (hb : Below ((w.alloc o).alloc o2).heap.size ((w.alloc o).alloc o2) w1) : Below w.heap.size w w1 := (boxes2 w o o2).trans (hb.mono (by simp; omega))
/-- one step after another -/
theorem after {w w1 w2 : World} (h : Below w.heap.size w w1) (h2 : Below w1.heap.size w1 w2) : Below w.heap.size w w2 := h.trans (h2.mono h.size)
theorem boxes_after {w w1 : World} {n sv st : Int} {s : Value} (hb : Below ((w.alloc (.cells #[.int .i64 n, s] 24)).alloc (.cells #[.int .i64 sv, .int .i64 st] 26)).heap.size ((w.alloc (.cells #[.int .i64 n, s] 24)).alloc (.cells #[.int .i64 sv, .int .i64 st] 26)) w1) :
    w1.cell? ⟨w.heap.size, 0, none⟩ = some (.int .i64 n) ∧ w1.cell? ⟨w.heap.size, 1, none⟩ = some s ∧ w1.cell? ⟨w.heap.size + 1, 0, none⟩ = some (.int .i64 sv) ∧ w1.cell? ⟨w.heap.size + 1, 1, none⟩ = some (.int .i64 st) := by
  refine ⟨(hb.cell (p := ⟨w.heap.size, 0, none⟩) (by simp; omega)).trans (by simp), (hb.cell (p := ⟨w.heap.size, 1, none⟩) (by simp; omega)).trans (by simp), (hb.cell (p := ⟨w.heap.size + 1, 0, none⟩) (by simp)).trans (by simp), (hb.cell (p := ⟨w.heap.size + 1, 1, none⟩) (by simp)).trans (by simp)⟩

set_option maxHeartbeats 2000000 in
set_option maxRecDepth 100000 in
theorem open_bad (n : Int) (A : Option Addr) (c : Nat) (l : List S58) (sv st : Int) (Av : Option Addr) (cv : Nat) (vs : List Int) (w : World)
    (hr : Kd.C k58 w A l.length l) (hv : Kd.C (Kd.int .i64) w Av vs.length vs) (hE : openE n l sv st vs ≠ 0) :
    Calls Try.prog 52 #[.agg #[.int .i64 n, .slice A l.length c], .agg #[.int .i64 sv, .int .i64 st], .slice Av vs.length cv] w
      fun e w' => e = .returned (.tuple #[.pointer none, .int .i64 (openE n l sv st vs)]) ∧ Below w.heap.size w w' := by
  have hr' := Lib.hid hr
  have hv' := Lib.hid hv
  clear hr hv
  have HY := Lib.hid (checkYard_calls n A c l _ (Kd.C_below hr'.out (boxes2 w (.cells #[.int .i64 n, .slice A l.length c] 24) (.cells #[.int .i64 sv, .int .i64 st] 26))))
  by_cases hc : checkYard n l = 0
  · have HC := Lib.hid hc
    by_cases h2 : isV n sv = true
    · cases h3 : withinB 0 100000 [st]
      · have F := Lib.hid (show openE n l sv st vs = 2 by simp [openE, hc, h2, h3])
        clear hE hc
        go_enter Try.func52, Try.ntmps52
        go_wp2_with (go_at_call 16; refine (HY.out).mono ?_; rintro e w1 ⟨rfl, hb1⟩; rw [HC.out]; obtain ⟨q1, q2, q3, q4⟩ := boxes_after hb1; have hz2 := size2 hb1; have hz1 : w.heap.size < w1.heap.size := by omega)
        refine (is_call _ _ n sv ?_).mono ?_
        focus (go_simp; done)
        rintro e w2 ⟨rfl, hb2⟩
        rw [h2]
        have q4' := cell_in1 hb2 q4
        go_wp2_with fail
        refine (within_one _ _ st _ _ _ ?_).mono ?_
        focus (go_simp; done)
        rintro e w3 ⟨rfl, hb3⟩
        rw [h3]
        go_wp2
        go_ret2
        exact ⟨by rw [F.out]; rfl, after (after (later2 hb1) (later1 hb2)) (later1 hb3)⟩
      · have h4 : vs.any (fun v => !isV n v) = true := by
          cases h : vs.any (fun v => !isV n v)
          · exact absurd (show openE n l sv st vs = 0 by simp only [openE, hc, h2, h3, h]; simp) hE
          · rfl
        have H4 := Lib.hid h4
        have F := Lib.hid (show openE n l sv st vs = 3 by simp only [openE, hc, h2, h3, h4]; simp)
        clear hE hc h4
        go_enter Try.func52, Try.ntmps52
        go_wp2_with (go_at_call 16; refine (HY.out).mono ?_; rintro e w1 ⟨rfl, hb1⟩; rw [HC.out]; obtain ⟨q1, q2, q3, q4⟩ := boxes_after hb1; have hz2 := size2 hb1; have hz1 : w.heap.size < w1.heap.size := by omega)
        refine (is_call _ _ n sv ?_).mono ?_
        focus (go_simp; done)
        rintro e w2 ⟨rfl, hb2⟩
        rw [h2]
        have q4' := cell_in1 hb2 q4
        have q1' := cell_in1 hb2 q1
        have q5' : w2.cell? ⟨w1.heap.size, 0, none⟩ = some (.func (.func 72) #[] #[.pointer (some ⟨w.heap.size, 0, none⟩)]) := cell_in hb2 (by go_simp)
        have hz3 := size1 hb2
        go_wp2_with fail
        refine (within_one _ _ st _ _ _ ?_).mono ?_
        focus (go_simp; done)
        rintro e w3 ⟨rfl, hb3⟩
        rw [h3]
        have q5 := cell_in1 hb3 q5'
        have q1'' := cell_in1 hb3 q1'
        have H3 := Lib.hid (isnt_lit w3 w.heap.size w1.heap.size n (World.block_lt_of_cell? w3 _ q1'') (World.block_lt_of_cell? w3 _ q5) q1'' q5)
        go_wp2_with fail
        refine (ContainsFunc53 73 _ _ Av cv vs _ (enters_of Try.func73 (by kernel_rfl) rfl) (Kd.C_below hv'.out (after (after (later2 hb1) (later1 hb2)) (later1 hb3))) H3.out).mono ?_
        rintro e w4 ⟨rfl, hb4⟩
        rw [H4.out]
        go_wp2
        go_ret2
        exact ⟨by rw [F.out]; rfl, after (after (after (later2 hb1) (later1 hb2)) (later1 hb3)) hb4⟩
    · have h2' : isV n sv = false := by simpa using h2
      have F := Lib.hid (show openE n l sv st vs = 2 by simp [openE, hc, h2'])
      clear hE hc h2
      go_enter Try.func52, Try.ntmps52
      go_wp2_with (go_at_call 16; refine (HY.out).mono ?_; rintro e w1 ⟨rfl, hb1⟩; rw [HC.out]; obtain ⟨q1, q2, q3, q4⟩ := boxes_after hb1; have hz2 := size2 hb1; have hz1 : w.heap.size < w1.heap.size := by omega)
      refine (is_call _ _ n sv ?_).mono ?_
      focus (go_simp; done)
      rintro e w2 ⟨rfl, hb2⟩
      rw [h2']
      go_wp2
      go_ret2
      exact ⟨by rw [F.out]; rfl, after (later2 hb1) (later1 hb2)⟩
  · have F := Lib.hid (show openE n l sv st vs = checkYard n l by simp [openE, hc])
    have hc2 : (checkYard n l != 0) = true := by simp [hc]
    clear hE hc
    go_enter Try.func52, Try.ntmps52
    go_wp2_with (go_at_call 16; refine (HY.out).mono ?_; rintro e w1 ⟨rfl, hb1⟩)
    go_ret2
    exact ⟨by rw [F.out]; rfl, after (later2 hb1) (box1 _ _)⟩

/-- A search as open makes it: its block. -/
def searchCells (n : Int) (s : Value) (sv st : Int) : Array Value := #[.int .i64 n, s, .int .i64 sv, .int .i64 st, .int .i64 0, .int .i64 0, .int .i64 0, .int .i64 0, .int .i64 0, .int .i64 0, .int .i64 0, .int .i64 0, .int .i64 0, .int .i64 0, .int .i64 0, .int .i64 0, .int .i64 0, .int .i64 0, .int .i64 0, .int .i64 0, .int .i64 0, .int .i64 0, .int .i64 0, .int .i64 0, .map none]

set_option maxHeartbeats 2000000 in
set_option maxRecDepth 100000 in
theorem open_ok (n : Int) (A : Option Addr) (c : Nat) (l : List S58) (sv st : Int) (Av : Option Addr) (cv : Nat) (vs : List Int) (w : World)
    (hr : Kd.C k58 w A l.length l) (hv : Kd.C (Kd.int .i64) w Av vs.length vs) (hE : openE n l sv st vs = 0) :
    Calls Try.prog 52 #[.agg #[.int .i64 n, .slice A l.length c], .agg #[.int .i64 sv, .int .i64 st], .slice Av vs.length cv] w
      fun e w' => ∃ w1, Below w.heap.size w w1 ∧ e = .returned (.tuple #[.pointer (some ⟨w1.heap.size, 0, none⟩), .int .i64 0]) ∧ w' = w1.alloc (.cells (searchCells n (.slice A l.length c) sv st) 96) := by
  have hr' := Lib.hid hr
  have hv' := Lib.hid hv
  clear hr hv
  have HY := Lib.hid (checkYard_calls n A c l _ (Kd.C_below hr'.out (boxes2 w (.cells #[.int .i64 n, .slice A l.length c] 24) (.cells #[.int .i64 sv, .int .i64 st] 26))))
  have hc : checkYard n l = 0 := by
    by_cases h : checkYard n l = 0
    · exact h
    · rw [openE, if_pos h] at hE; exact hE
  have h2 : isV n sv = true := by
    cases h : isV n sv
    · simp [openE, hc, h] at hE
    · rfl
  have h3 : withinB 0 100000 [st] = true := by
    cases h : withinB 0 100000 [st]
    · simp [openE, hc, h2, h] at hE
    · rfl
  have H4 : Hid (vs.any (fun v => !isV n v) = false) := by
    refine Lib.hid ?_
    cases h : vs.any (fun v => !isV n v)
    · rfl
    · simp only [openE, hc, h2, h3, h] at hE; simp at hE
  have HC := Lib.hid hc
  clear hE hc
  go_enter Try.func52, Try.ntmps52
  go_wp2_with (go_at_call 16; refine (HY.out).mono ?_; rintro e w1 ⟨rfl, hb1⟩; rw [HC.out]; obtain ⟨q1, q2, q3, q4⟩ := boxes_after hb1; have hz2 := size2 hb1; have hz1 : w.heap.size < w1.heap.size := by omega)
  refine (is_call _ _ n sv ?_).mono ?_
  focus (go_simp; done)
  rintro e w2 ⟨rfl, hb2⟩
  rw [h2]
  have q4' := cell_in1 hb2 q4
  have q1' := cell_in1 hb2 q1
  have q5' : w2.cell? ⟨w1.heap.size, 0, none⟩ = some (.func (.func 72) #[] #[.pointer (some ⟨w.heap.size, 0, none⟩)]) := cell_in hb2 (by go_simp)
  have hz3 := size1 hb2
  go_wp2_with fail
  refine (within_one _ _ st _ _ _ ?_).mono ?_
  focus (go_simp; done)
  rintro e w3 ⟨rfl, hb3⟩
  rw [h3]
  have q5 := cell_in1 hb3 q5'
  have q1'' := cell_in1 hb3 q1'
  have H3 := Lib.hid (isnt_lit w3 w.heap.size w1.heap.size n (World.block_lt_of_cell? w3 _ q1'') (World.block_lt_of_cell? w3 _ q5) q1'' q5)
  go_wp2_with fail
  refine (ContainsFunc53 73 _ _ Av cv vs _ (enters_of Try.func73 (by kernel_rfl) rfl) (Kd.C_below hv'.out (after (after (later2 hb1) (later1 hb2)) (later1 hb3))) H3.out).mono ?_
  rintro e w4 ⟨rfl, hb4⟩
  rw [H4.out]
  have p1 := cell_in hb4 q1''
  have p2 := cell_in hb4 (cell_in1 hb3 (cell_in1 hb2 q2))
  have p3 := cell_in hb4 (cell_in1 hb3 (cell_in1 hb2 q3))
  have p4 := cell_in hb4 (cell_in1 hb3 q4')
  clear q1 q2 q3 q4 q4' q1' q1'' q5 q5'
  go_wp2
  go_ret2
  refine ⟨w4, after (after (after (later2 hb1) (later1 hb2)) (later1 hb3)) hb4, rfl, rfl⟩
end Go.Proofs.Ytfhmepdbbhcncaa.P

namespace Go.Proofs.Ytfhmepdbbhcncaa.P
open Go.RowKit Go.Proofs.YtfhmepdbbhcncaaW.PrintWords Go.Proofs.YtfhmepdbbhcncaaW.PrintLast Go.Proofs.YtfhmepdbbhcncaaW.PrintMore
set_option linter.unusedVariables false
set_option linter.unusedSimpArgs false

/-- What is asked of a function value that answers a number, at the elements of a list. -/
def PredI {α : Type} (g : Nat) (lb : Array Value) (enc : α → Value) (f : α → Int) (l : List α) (w : World) : Prop :=
  ∀ (W : World) (x : α), x ∈ l → Below w.heap.size w W → Calls Try.prog g (#[enc x] ++ lb) W fun e w' => e = .returned (.int .i64 (f x)) ∧ Below W.heap.size W w'

def leastStep (f : Int → Int) (b x : Int) : Int := if f x < f b then x else b
/-- the first element with the least number -/
def leastF (f : Int → Int) : List Int → Int
  | [] => 0
  | x :: xs => xs.foldl (leastStep f) x

theorem cut1_27 (A : Option Addr) (c : Nat) (x : Int) (xs : List Int) (hc : xs.length + 1 ≤ c) : ∃ A' : Option Addr,
    (∀ W : World, (Instr.slice 27 (.slice A (xs.length + 1) c) (some (.int .i64 1)) none none).run Try.prog W = .ok (.slice A' xs.length (c - 1)) W) ∧
    (∀ w : World, Kd.C (Kd.int .i64) w A (xs.length + 1) (x :: xs) → Kd.C (Kd.int .i64) w A' xs.length xs) := by
  obtain ⟨i, hi, _, hs, _⟩ := info_parts info3
  refine ⟨if c = 1 then A else A.map (·.add (1 * 1)), fun W => ?_, fun w h => ?_⟩
  · exact cut_from 27 3 .i64 Try.underlying27 hi 1 hs A (xs.length + 1) c 1 (by omega) (by omega) W
  · exact Kd.C_drop (c := c) (m := 1) h (by simp) (by simpa using hc)

theorem leastF_mem (f : Int → Int) : ∀ (xs : List Int) (x : Int), xs.foldl (leastStep f) x ∈ x :: xs
  | [], x => by simp
  | y :: ys, x => by
    have h := leastF_mem f ys (leastStep f x y)
    simp only [List.foldl_cons]
    unfold leastStep at h ⊢
    split at h <;> rename_i hc
    · rw [if_pos hc]
      exact List.mem_cons_of_mem _ h
    · rw [if_neg hc]
      rcases List.mem_cons.1 h with h | h
      · rw [h]; simp
      · exact List.mem_cons_of_mem _ (List.mem_cons_of_mem _ h)

theorem foldl_take_succ {α β : Type} (g : β → α → β) (b : β) (xs : List α) (i : Nat) (hi : i < xs.length) : (xs.take (i + 1)).foldl g b = g ((xs.take i).foldl g b) xs[i] := by
  rw [List.take_succ_eq_append_getElem hi, List.foldl_append]
  rfl

set_option maxHeartbeats 1000000 in
set_option maxRecDepth 100000 in
theorem least76 (g : Nat) (lb : Array Value) (f : Int → Int) (A : Option Addr) (c : Nat) (x : Int) (xs : List Int) (w : World)
    (eg : ∀ args w, (callFunc g args).run Try.prog w = .ok (.enter g args) w)
    (hr : Kd.C (Kd.int .i64) w A (xs.length + 1) (x :: xs)) (hc : xs.length + 1 ≤ c) (hp : PredI g lb (Value.int .i64) f (x :: xs) w) :
    Calls Try.prog 76 #[.slice A (xs.length + 1) c, .func (.func g) #[] lb] w fun e w' => e = .returned (.int .i64 (leastF f (x :: xs))) ∧ Below w.heap.size w w' := by
  obtain ⟨A', hcut, hreads⟩ := cut1_27 A c x xs hc
  have HR := Aside0.mk (hreads w hr)
  obtain ⟨ad, e0, hc0⟩ := Kd.at_int hr 0 (by omega) (by omega)
  have HP := Aside0.mk hp
  have HL := Aside0.mk hr.2.1
  have hc0' : w.cell? ad = some (.int .i64 x) := by simpa [Addr.add, rd] using hc0
  cases e0
  clear hr hp hreads hc0
  have hln : 0 < xs.length + 1 := by omega
  have hle := HL.out
  go_enter Try.func76, Try.ntmps76
  go_wp2
  go_loopg [5, 14] xs.length (fun kq v5 v14 w' => ∃ i : Nat, v14 = .int .i64 i ∧ v5 = .int .i64 ((xs.take i).foldl (leastStep f) x) ∧ Aside0 (i + kq = xs.length) ∧ Aside0 (Below w.heap.size w w'))
  case atStart => exact ⟨0, rfl, by simp, ⟨by omega⟩, ⟨Below.refl _ _⟩⟩
  case round =>
    obtain ⟨i, rfl, rfl, HI, HB⟩ := hrel
    clear hcut hc0'
    cases gk with
    | zero =>
      have hi : i = xs.length := by have := HI.out; omega
      have hlt : decide (i < xs.length) = false := by rw [hi]; simp
      have F := Lib.hid (show (xs.take i).foldl (leastStep f) x = leastF f (x :: xs) by rw [hi, List.take_length]; rfl)
      clear hi
      go_wp2
      go_ret
      exact ⟨by rw [← F.out]; rfl, HB.out⟩
    | succ k1 =>
      have hi : i < xs.length := by have := HI.out; omega
      have hlt : decide (i < xs.length) = true := by simp [hi]
      have hC := Kd.C_below HR.out HB.out
      obtain ⟨ad', e0, hc0⟩ := Kd.at_int hC (i : Int) (by omega) (by omega)
      cases e0
      rw [Int.toNat_natCast, rd_nat xs i hi] at hc0
      have F := Lib.hid (foldl_take_succ (leastStep f) x xs i hi)
      have hm := leastF_mem f (xs.take i) x
      have hm' : (xs.take i).foldl (leastStep f) x ∈ x :: xs := by
        rcases List.mem_cons.1 hm with h | h
        · rw [h]; simp
        · exact List.mem_cons_of_mem _ (List.mem_of_mem_take h)
      generalize hb0 : (xs.take i).foldl (leastStep f) x = b0 at *
      have hpx := Lib.hid (fun W hb => HP.out W xs[i] (by simp) hb)
      have hpb := Lib.hid (fun W hb => HP.out W b0 hm' hb)
      generalize hy : xs[i] = y at *
      have F2 := F
      clear hm hm' hC hb0 F
      clear hy
      go_wp2_with fail
      refine (hpx.out _ HB.out).mono ?_
      rintro e w2 ⟨rfl, hb2⟩
      go_wp2_with fail
      refine (hpb.out _ (after HB.out hb2)).mono ?_
      rintro e w3 ⟨rfl, hb3⟩
      have HB3 := Aside0.mk (after (after HB.out hb2) hb3)
      by_cases hlt2 : f y < f b0
      · go_wp2
        go_roundg k1
        case rel => exact ⟨i + 1, by go_num, by rw [F2.out, leastStep, if_pos (by omega)], ⟨by have := HI.out; omega⟩, HB3⟩
        case measure => omega
      · go_wp2
        go_roundg k1
        case rel => exact ⟨i + 1, by go_num, by rw [F2.out, leastStep, if_neg (by omega)], ⟨by have := HI.out; omega⟩, HB3⟩
        case measure => omega
end Go.Proofs.Ytfhmepdbbhcncaa.P

namespace Go.Proofs.Ytfhmepdbbhcncaa.P
open Go.RowKit Go.Proofs.YtfhmepdbbhcncaaW.PrintWords Go.Proofs.YtfhmepdbbhcncaaW.PrintLast Go.Proofs.YtfhmepdbbhcncaaW.PrintMore
set_option linter.unusedVariables false
set_option linter.unusedSimpArgs false

/-- Block b: cells of type t. -/
def Blk (W : World) (b : Nat) (t : TypeId) (cur : Array Value) : Prop := W.heap[b]? = some (.cells cur t (0, 0))
section
variable {W W' : World} {b : Nat} {t : TypeId} {cur : Array Value}
theorem Blk.lt (h : Blk W b t cur) : b < W.heap.size := (Array.getElem?_eq_some_iff.1 h).1
theorem Blk.cell (h : Blk W b t cur) (j : Nat) : W.cell? ⟨b, j, none⟩ = cur[j]? := by simp [World.cell?, show W.heap[b]? = _ from h]
theorem Blk.fz (h : Blk W b t cur) (j : Nat) : W.frozen? ⟨b, j, none⟩ = false := by simp [World.frozen?, show W.heap[b]? = _ from h]
theorem Blk.set (h : Blk W b t cur) (j : Nat) (v : Value) : Blk (W.setCell ⟨b, j, none⟩ v) b t (cur.setIfInBounds j v) := by
  obtain ⟨hlt, hk⟩ := Array.getElem?_eq_some_iff.1 h
  show (W.heap.modify b _)[b]? = _
  rw [Array.getElem?_eq_getElem (by rw [Array.size_modify]; exact hlt), Array.getElem_modify_self, hk]
  rfl
theorem Blk.kept {row : Option Nat} (h : Blk W b t cur) (hg : W.grownBy W' row) (hne : some b ≠ row) : Blk W' b t cur := (hg.block b h.lt hne).trans h
theorem Blk.below {B : Nat} (h : Blk W b t cur) (hb : Below B W W') (hB : b < B) : Blk W' b t cur := (hb.block b hB).trans h
theorem Blk.alloc (h : Blk W b t cur) (o : Obj) : Blk (W.alloc o) b t cur := h.kept (World.grownBy_alloc W o none) (by simp)
theorem Blk.new (W : World) (cur : Array Value) (t : TypeId) : Blk (W.alloc (.cells cur t)) W.heap.size t cur := World.alloc_heap_new W _
theorem grown_set (W : World) (b j : Nat) (v : Value) : W.grownBy (W.setCell ⟨b, j, none⟩ v) (some b) :=
  ⟨rfl, rfl, rfl, (KeepsWalks.setCell W _ v).size, fun k _ hk => Below.heap_setCell _ _ _ k (fun e => hk (by rw [e]))⟩
theorem Blk.sets (vs : List Value) : ∀ (o : Nat) (W : World) (cur : Array Value), Blk W b t cur → o + vs.length ≤ cur.size →
    ∃ cur', Blk (W.setCells b o vs) b t cur' ∧ cur'.size = cur.size ∧ (∀ j, j < o → cur'[j]? = cur[j]?) ∧ (∀ j, j < vs.length → cur'[o + j]? = vs[j]?) ∧ (∀ j, o + vs.length ≤ j → cur'[j]? = cur[j]?) ∧ W.grownBy (W.setCells b o vs) (some b) := by
  induction vs with
  | nil => exact fun o W cur h _ => ⟨cur, h, rfl, fun _ _ => rfl, fun j hj => absurd hj (Nat.not_lt_zero _), fun _ _ => rfl, ⟨rfl, rfl, rfl, Nat.le_refl _, fun _ _ _ => rfl⟩⟩
  | cons v vs ih =>
    intro o W cur h hs
    simp only [List.length_cons] at hs
    obtain ⟨cur', h1, h2, h3, h4, h5, h6⟩ := ih (o + 1) _ _ (h.set o v) (by simp; omega)
    refine ⟨cur', h1, by simpa using h2, fun j hj => ?_, fun j hj => ?_, fun j hj => ?_, (grown_set W b o v).trans h6⟩
    · rw [h3 j (by omega)]; simp [Array.getElem?_setIfInBounds]; omega
    · cases j with
      | zero =>
        rw [Nat.add_zero, h3 o (by omega)]
        simp [Array.getElem?_setIfInBounds]; omega
      | succ j =>
        have := h4 j (by simpa using hj)
        rw [show o + (j + 1) = o + 1 + j by omega, this]
        simp
    · simp only [List.length_cons] at hj
      rw [h5 j (by omega)]; simp [Array.getElem?_setIfInBounds]; omega
end

/-- Block b is an array of cap cells of type t, the first of which hold the numbers ys. -/
structure RowC (W : World) (b : Nat) (t : TypeId) (cap : Nat) (ys : List Int) : Prop where
  ex : ∃ cur, Blk W b t cur ∧ cur.size = cap ∧ ∀ j (h : j < ys.length), cur[j]? = some (.int .i64 ys[j])
  le : ys.length ≤ cap
  cap_le : cap ≤ maxLen
section
variable {W W' : World} {b : Nat} {t : TypeId} {cap : Nat} {ys : List Int}
theorem RowC.lt (h : RowC W b t cap ys) : b < W.heap.size := by obtain ⟨cur, hb, _⟩ := h.ex; exact hb.lt
theorem RowC.cell (h : RowC W b t cap ys) (j : Nat) (hj : j < ys.length) : W.cell? ⟨b, j, none⟩ = some (.int .i64 ys[j]) := by
  obtain ⟨cur, hb, _, hc⟩ := h.ex; rw [hb.cell]; exact hc j hj
theorem RowC.fz (h : RowC W b t cap ys) (j : Nat) : W.frozen? ⟨b, j, none⟩ = false := by obtain ⟨cur, hb, _⟩ := h.ex; exact hb.fz j
theorem RowC.set (h : RowC W b t cap ys) (j : Nat) (hj : j < ys.length) (v : Int) : RowC (W.setCell ⟨b, j, none⟩ (.int .i64 v)) b t cap (ys.set j v) := by
  obtain ⟨cur, hb, hs, hc⟩ := h.ex
  refine ⟨⟨_, hb.set j _, by simpa using hs, fun i hi => ?_⟩, by simpa using h.le, h.cap_le⟩
  have hi' : i < ys.length := by simpa using hi
  rw [Array.getElem?_setIfInBounds, List.getElem_set]
  by_cases e : j = i
  · subst e; have := h.le; simp [hs]; omega
  · simp [e]; exact hc i hi'
theorem RowC.kept {row : Option Nat} (h : RowC W b t cap ys) (hg : W.grownBy W' row) (hne : some b ≠ row) : RowC W' b t cap ys := by
  obtain ⟨cur, hb, hs, hc⟩ := h.ex
  exact ⟨⟨cur, hb.kept hg hne, hs, hc⟩, h.le, h.cap_le⟩
theorem RowC.below {B : Nat} (h : RowC W b t cap ys) (hb : Below B W W') (hB : b < B) : RowC W' b t cap ys := by
  obtain ⟨cur, h1, hs, hc⟩ := h.ex
  exact ⟨⟨cur, h1.below hb hB, hs, hc⟩, h.le, h.cap_le⟩
theorem RowC.reads (h : RowC W b t cap ys) : Kd.C (Kd.int .i64) W (some ⟨b, 0, none⟩) ys.length ys :=
  kdC_int ys (by have := h.le; have := h.cap_le; unfold maxLen at *; omega) (fun j hj => h.cell j hj)
theorem RowC.take (h : RowC W b t cap ys) (m : Nat) : RowC W b t cap (ys.take m) := by
  obtain ⟨cur, hb, hs, hc⟩ := h.ex
  refine ⟨⟨cur, hb, hs, fun j hj => ?_⟩, by have := h.le; simp; omega, h.cap_le⟩
  have hj' : j < ys.length := by simp at hj; omega
  rw [hc j hj']; simp
theorem RowC.own {base : Nat} (h : RowC W b t cap ys) (hb : base ≤ b) : W.ownsRow base t 1 (.slice (some ⟨b, 0, none⟩) ys.length cap) ys.length (ys.map (Value.int .i64)) := by
  obtain ⟨cur, hk, hs, hc⟩ := h.ex
  refine ⟨by simp, .inr ⟨b, cap, cur, rfl, hb, hk, h.le, h.cap_le, by omega, ?_⟩⟩
  apply List.ext_getElem
  · have := h.le; simp; omega
  · intro i h1 h2
    have hi : i < ys.length := by simpa using h2
    have := hc i hi
    rw [Array.getElem?_eq_some_iff] at this
    obtain ⟨h3, h4⟩ := this
    simp [h4]
theorem RowC.of_own {base : Nat} {v : Value} {n : Nat} (h : W.ownsRow base t 1 v n (ys.map (Value.int .i64))) (hn : 0 < n) : ∃ b cap, v = .slice (some ⟨b, 0, none⟩) n cap ∧ base ≤ b ∧ ys.length = n ∧ RowC W b t cap ys := by
  obtain ⟨h1, ⟨rfl, h0⟩ | ⟨g, cap, cur, rfl, hg, hk, hle, hcm, hs, ht⟩⟩ := h
  · omega
  · have hl : ys.length = n := by simpa using h1
    refine ⟨g, cap, rfl, hg, hl, ⟨⟨cur, hk, by omega, fun j hj => ?_⟩, by omega, hcm⟩⟩
    have : (cur.toList.take (n * 1))[j]? = (ys.map (Value.int .i64))[j]? := by rw [ht]
    rw [List.getElem?_take_of_lt (by omega)] at this
    simpa [hj] using this
end
end Go.Proofs.Ytfhmepdbbhcncaa.P

namespace Go.Proofs.Ytfhmepdbbhcncaa.P
open Go.RowKit Go.Proofs.YtfhmepdbbhcncaaW.PrintWords Go.Proofs.YtfhmepdbbhcncaaW.PrintLast Go.Proofs.YtfhmepdbbhcncaaW.PrintMore
set_option linter.unusedVariables false
set_option linter.unusedSimpArgs false

/-- PredB, where block b may be written between the calls. -/
def PredG {α : Type} (g : Nat) (lb : Array Value) (enc : α → Value) (p : α → Bool) (b : Nat) (w : World) : Prop :=
  ∀ (W : World) (x : α), w.grownBy W (some b) → Calls Try.prog g (#[enc x] ++ lb) W fun e w' => e = .returned (.bool (p x)) ∧ Below W.heap.size W w'
theorem grown_of_below {w W : World} (h : Below w.heap.size w W) (row : Option Nat) : w.grownBy W row := ⟨h.os, h.tape, h.output, h.size, fun k hk _ => h.block k hk⟩
theorem PredG.B {α : Type} {g : Nat} {lb : Array Value} {enc : α → Value} {p : α → Bool} {b : Nat} {w : World} (h : PredG g lb enc p b w) : PredB g lb enc p w :=
  fun W x hb => h W x (grown_of_below hb _)

theorem filter_take_succ (p : Int → Bool) (xs : List Int) (j : Nat) (hj : j < xs.length) : (xs.take (j + 1)).filter p = (xs.take j).filter p ++ if p xs[j] then [xs[j]] else [] := by
  rw [List.take_succ_eq_append_getElem hj, List.filter_append]
  by_cases h : p xs[j] <;> simp [h]
theorem set_take_succ (ys : List Int) (i : Nat) (x : Int) (hi : i < ys.length) : (ys.set i x).take (i + 1) = ys.take i ++ [x] := by
  rw [List.take_succ_eq_append_getElem (by simpa using hi)]
  simp [List.take_set]
  rw [List.set_eq_of_length_le (by simp; omega)]
theorem set_drop_succ (ys : List Int) (i j : Nat) (x : Int) (hi : i < j) : (ys.set i x).drop j = ys.drop j := by
  rw [List.drop_set]; simp [hi]

theorem cut_from_27 (b n cap i : Nat) (h1 : i ≤ n) (h2 : i ≠ cap) (W : World) :
    (Instr.slice 27 (.slice (some ⟨b, 0, none⟩) n cap) (some (.int .i64 (i : Int))) none none).run Try.prog W = .ok (.slice (some ⟨b, i, none⟩) (n - i) (cap - i)) W := by
  obtain ⟨ti, hi, _, hs, _⟩ := info_parts info3
  rw [cut_from 27 3 .i64 Try.underlying27 hi 1 hs (some ⟨b, 0, none⟩) n cap (i : Int) (by omega) (by omega) W]
  rw [Int.toNat_natCast, if_neg (by omega)]
  have : (⟨b, 0, none⟩ : Addr).add i = ⟨b, i, none⟩ := by simp [Addr.add]; intro h; rw [h]
  simp [this]
theorem cut_to_27 (b n cap i : Nat) (h1 : i ≤ n) (h2 : n ≤ cap) (W : World) :
    (Instr.slice 27 (.slice (some ⟨b, 0, none⟩) n cap) none (some (.int .i64 (i : Int))) none).run Try.prog W = .ok (.slice (some ⟨b, 0, none⟩) i cap) W := by
  obtain ⟨ti, hi, _, hs, _⟩ := info_parts info3
  rw [cut_to 27 3 .i64 Try.underlying27 hi (some ⟨b, 0, none⟩) n cap (i : Int) (by omega) (by omega) h2 W]
  rw [Int.toNat_natCast]

theorem zero3 (w : World) : (zeroValue 3).run Try.prog w = .ok (.int .i64 0) w := by kernel_rfl
theorem clear_27 {w : World} {b cap : Nat} {ys : List Int} (h : RowC w b 3 cap ys) (i : Nat) (hi : i < ys.length) (ty : TypeId) (c : Nat) :
    ∃ w', (Builtin.clear_ #[27] ty #[.slice (some ⟨b, i, none⟩) (ys.length - i) c]).run Try.prog w = .ok (.tuple #[]) w' ∧ w.grownBy w' (some b) ∧ RowC w' b 3 cap (ys.take i) := by
  obtain ⟨cur, hb, hs, hc⟩ := h.ex
  have hle := h.le
  obtain ⟨cur', h1, h2, h3, _, _, h6⟩ := Blk.sets (List.replicate (ys.length - i) (.int .i64 0)) i w cur hb (by simp; omega)
  refine ⟨w.setCells b i (List.replicate (ys.length - i) (.int .i64 0)), Lib.run_clear_slice w 27 3 ty (.int .i64 0) Try.underlying27 zero3 rfl rfl b i (ys.length - i) c (by omega) (fun j hj => ?_) (fun j hj => hb.fz _), h6, ⟨⟨cur', h1, by omega, fun j hj => ?_⟩, by simp; omega, h.cap_le⟩⟩
  · rw [h.cell (i + j) (by omega)]; rfl
  · have hj' : j < i ∧ j < ys.length := by simp at hj; omega
    rw [h3 j hj'.1, hc j hj'.2]; simp

set_option maxHeartbeats 2000000 in
set_option maxRecDepth 100000 in
theorem DeleteFunc78 (g : Nat) (lb : Array Value) (p : Int → Bool) (b cap : Nat) (xs : List Int) (w : World)
    (eg : ∀ args w, (callFunc g args).run Try.prog w = .ok (.enter g args) w)
    (hr : RowC w b 3 cap xs) (hp : PredG g lb (Value.int .i64) p b w) :
    Calls Try.prog 78 #[.slice (some ⟨b, 0, none⟩) xs.length cap, .func (.func g) #[] lb] w
      fun e w' => ∃ ys, ys = xs.filter (fun x => !p x) ∧ e = .returned (.slice (some ⟨b, 0, none⟩) ys.length cap) ∧ RowC w' b 3 cap ys ∧ w.grownBy w' (some b) := by
  have HI := Lib.hid (IndexFunc74 g lb p (some ⟨b, 0, none⟩) cap xs w eg hr.reads hp.B)
  have HR := Lib.hid hr
  have HP := Lib.hid hp
  have hle := hr.le
  have hcm := hr.cap_le
  unfold maxLen at hcm
  clear hr hp
  cases hfi : xs.findIdx? p with
  | none =>
    have F := Lib.hid (show idxP p xs = -1 by simp [idxP, hfi])
    have G := Lib.hid (show xs.filter (fun x => !p x) = xs by
      rw [List.filter_eq_self]
      rw [List.findIdx?_eq_none_iff] at hfi
      intro a ha; simp [hfi a ha])
    clear hfi
    go_enter Try.func78, Try.ntmps78
    go_wp2_with (go_at_call 74; refine (HI.out).mono ?_; rintro e w1 ⟨rfl, hb1⟩; rw [F.out])
    go_ret
    exact ⟨xs, G.out.symm, rfl, HR.out.below hb1 HR.out.lt, grown_of_below hb1 _⟩
  | some i0 =>
    rw [List.findIdx?_eq_some_iff_getElem] at hfi
    obtain ⟨hi0, hp0, hpn⟩ := hfi
    have F := Lib.hid (show idxP p xs = (i0 : Int) from idxP_hit p xs i0 hi0 (fun j hj h => by simpa using hpn j h) hp0)
    have G0 := Lib.hid (show xs.take i0 = (xs.take (i0 + 1)).filter (fun x => !p x) by
      rw [filter_take_succ (fun x => !p x) xs i0 hi0]
      simp only [hp0]
      simp
      symm
      rw [List.filter_eq_self]
      intro a ha
      obtain ⟨j, hj, rfl⟩ := List.mem_iff_getElem.1 ha
      have hj2 : j < i0 := Nat.lt_of_lt_of_le hj (List.length_take_le _ _)
      have := hpn j hj2
      simpa using this)
    clear hp0 hpn
    have hq : ((i0 : Int) == -1) = false := by simp
    go_enter Try.func78, Try.ntmps78
    go_wp2_with (go_at_call 74; refine (HI.out).mono ?_; rintro e w1 ⟨rfl, hb1⟩; rw [F.out])
    have HR1 := HR.out.below hb1 HR.out.lt
    have HG1 := grown_of_below hb1 (some b)
    go_loopg [5, 6] (xs.length - (i0 + 1)) (fun kq v5 v6 w' => ∃ (i j : Nat) (ys : List Int), v5 = .int .i64 i ∧ v6 = .int .i64 j ∧ Aside0 (i < j) ∧ Aside0 (j + kq = xs.length) ∧ Aside0 (ys.length = xs.length) ∧ Aside0 (ys.take i = (xs.take j).filter (fun x => !p x)) ∧ Aside0 (ys.drop j = xs.drop j) ∧ Aside0 (RowC w' b 3 cap ys) ∧ Aside0 (w.grownBy w' (some b)))
    case atStart => exact ⟨i0, i0 + 1, xs, rfl, by go_num, ⟨by omega⟩, ⟨by omega⟩, ⟨rfl⟩, ⟨G0.out⟩, ⟨rfl⟩, ⟨HR1⟩, ⟨HG1⟩⟩
    case round =>
      obtain ⟨i, j, ys, rfl, rfl, HIJ, HK, HLY, HT, HD, HRY, HGY⟩ := hrel
      clear hb1 HR1 HG1 hq hi0
      cases gk with
      | zero =>
        have hj : j = xs.length := by have := HK.out; omega
        have hlt : decide (j < xs.length) = false := by rw [hj]; simp
        have hij : i < xs.length := by have := HIJ.out; omega
        obtain ⟨w2, hclr, hg2, hr2⟩ := clear_27 HRY.out i (by have := HLY.out; omega) 0 (cap - i)
        rw [HLY.out] at hclr
        have hfrom := cut_from_27 b xs.length cap i (by omega) (by omega)
        have hto := cut_to_27 b xs.length cap i (by omega) (by omega)
        have HT2 := Lib.hid (show ys.take i = xs.filter (fun x => !p x) by rw [HT.out, hj, List.take_length])
        have HLT := Lib.hid (show (ys.take i).length = i by have := HLY.out; simp; omega)
        have Hr2 := Lib.hid hr2
        clear hr2 hj
        go_wp2
        go_ret
        refine ⟨ys.take i, HT2.out, ?_, Hr2.out, HGY.out.trans hg2⟩
        rw [HLT.out]
        rfl
      | succ k1 =>
        have hj : j < xs.length := by have := HK.out; omega
        have hlt : decide (j < xs.length) = true := by simp [hj]
        have hjy : j < ys.length := by have := HLY.out; omega
        have hiy : i < ys.length := by have := HLY.out; have := HIJ.out; omega
        have hyx : ys[j] = xs[j] := by
          have h1 : (ys.drop j)[0]? = (xs.drop j)[0]? := by rw [HD.out]
          simpa [hjy, hj] using h1
        have hc0 : wr.cell? ⟨b, j, none⟩ = some (.int .i64 xs[j]) := by rw [HRY.out.cell j hjy, hyx]
        have hci : wr.cell? ⟨b, i, none⟩ = some (.int .i64 ys[i]) := HRY.out.cell i hiy
        have hpx := Lib.hid (HP.out wr xs[j] HGY.out)
        have HF := Lib.hid (filter_take_succ (fun x => !p x) xs j hj)
        have HD2 := Lib.hid (show ys.drop (j + 1) = xs.drop (j + 1) by
          have := congrArg (List.drop 1) HD.out
          rw [List.drop_drop, List.drop_drop] at this
          exact this)
        have HS1 := Lib.hid (set_take_succ ys i xs[j] hiy)
        have HS2 := Lib.hid (set_drop_succ ys i (j + 1) xs[j] (by have := HIJ.out; omega))
        have HS3 := Lib.hid (HRY.out.set i hiy xs[j])
        have hij := HIJ.out
        have hixs : i < xs.length := by omega
        generalize hx : xs[j] = x at *
        generalize hyi : ys[i] = yi at *
        clear hx hyi hyx
        cases hpv : p x with
        | true =>
          have HPV := Lib.hid hpv
          clear hpv
          go_wp2_with fail
          refine (hpx.out).mono ?_
          rintro e w2 ⟨rfl, hb2⟩
          rw [HPV.out]
          go_wp2
          go_roundg k1
          case rel => exact ⟨i, j + 1, ys, rfl, by go_num, ⟨by omega⟩, ⟨by have := HK.out; omega⟩, HLY, ⟨by rw [HF.out, HPV.out, ← HT.out]; simp⟩, ⟨HD2.out⟩, ⟨HRY.out.below hb2 HRY.out.lt⟩, ⟨HGY.out.trans (grown_of_below hb2 _)⟩⟩
          case measure => omega
        | false =>
          have HPV := Lib.hid hpv
          clear hpv
          go_wp2_with fail
          refine (hpx.out).mono ?_
          rintro e w2 ⟨rfl, hb2⟩
          rw [HPV.out]
          have hlt3 := HRY.out.lt
          have hci2 : w2.cell? ⟨b, i, none⟩ = some (.int .i64 yi) := cell_in hb2 hci
          have hfz2 : w2.frozen? ⟨b, i, none⟩ = false := (HRY.out.below hb2 hlt3).fz i
          go_wp2
          go_roundg k1
          case rel => exact ⟨i + 1, j + 1, ys.set i x, by go_num, by go_num, ⟨by omega⟩, ⟨by have := HK.out; omega⟩, ⟨by have := HLY.out; simpa using this⟩, ⟨by rw [HS1.out, HF.out, HPV.out, HT.out]; simp⟩, ⟨by rw [HS2.out, HD2.out]⟩, ⟨(HRY.out.below hb2 hlt3).set i hiy x⟩, ⟨(HGY.out.trans (grown_of_below hb2 _)).trans (grown_set _ _ _ _)⟩⟩
          case measure => omega
end Go.Proofs.Ytfhmepdbbhcncaa.P

/- Maps that the call itself makes, told by a plain function from keys to values. -/
namespace Go.Proofs.YtfhmepdbbhcncaaM
open Go.Instr
variable {P : Program} {κ : Type} [DecidableEq κ]

/-- A key's type whose values are written by enc: what is asked of it. -/
structure KeyOK (P : Program) (kt : TypeId) (enc : κ → Value) : Prop where
  chk : ∀ (e : Bool) (k : κ) (w : World), (checkKey e 10000 kt (enc k)).run P w = .ok () w
  eq : ∀ (a b : κ) (w : World), (Op.equal kt (enc a) (enc b)).run P w = .ok (decide (a = b)) w
  bits : ∀ a : κ, sameBits 10000 (enc a) (enc a) = true
  und : ∃ d, P.underlying kt = some d ∧ ((∀ a b : κ, sameNow d (enc a) (enc b) = none) ∨ (∀ a b : κ, sameNow d (enc a) (enc b) = some (decide (a = b))))

abbrev Ent (κ : Type) := κ × Value × Nat
def mkE (enc : κ → Value) (x : Ent κ) : MapEntry := ⟨enc x.1, x.2.1, x.2.2⟩
def findE (k : κ) : List (Ent κ) → Nat → Option (Nat × Value)
  | [], _ => none
  | e :: es, i => if k = e.1 then some (i, e.2.1) else findE k es (i + 1)

theorem findAsking_run {kt : TypeId} {enc : κ → Value} (K : KeyOK P kt enc) (k : κ) : ∀ (es : List (Ent κ)) (i : Nat) (w : World),
    (findAsking kt (enc k) (es.map (mkE enc)) i).run P w = .ok (findE k es i) w
  | [], i, w => by simp [findAsking, findE, Sem.run_pure]
  | e :: es, i, w => by
    simp only [List.map_cons, findAsking, findE, mkE]
    rw [Sem.run_bind, K.eq]
    by_cases h : k = e.1
    · simp [h, Result.andThen, Sem.run_pure]
    · simp [h, Result.andThen]
      exact findAsking_run K k es (i + 1) w

theorem findNow_run {d : TypeDesc} {enc : κ → Value} (h : ∀ a b : κ, sameNow d (enc a) (enc b) = some (decide (a = b))) (k : κ) : ∀ (es : List (Ent κ)) (i : Nat),
    findNow d (enc k) (es.map (mkE enc)) i = some (findE k es i)
  | [], i => rfl
  | e :: es, i => by
    simp only [List.map_cons, findNow, mkE, h]
    by_cases hk : k = e.1
    · simp [hk, findE]
    · simp [hk, findE]
      exact findNow_run h k es (i + 1)

theorem findKey_run {kt : TypeId} {enc : κ → Value} (K : KeyOK P kt enc) (k : κ) (es : List (Ent κ)) (w : World) :
    (findKey kt (enc k) (es.map (mkE enc))).run P w = .ok (findE k es 0) w := by
  obtain ⟨d, hd, h | h⟩ := K.und
  · simp only [findKey]
    rw [Sem.run_bind, run_underlying hd]
    simp only [Result.andThen]
    cases es with
    | nil => simp [findNow, findE, Sem.run_pure]
    | cons e es =>
      have : findNow d (enc k) ((e :: es).map (mkE enc)) 0 = none := by simp [findNow, mkE, h]
      rw [this]
      exact findAsking_run K k (e :: es) 0 w
  · simp only [findKey]
    rw [Sem.run_bind, run_underlying hd]
    simp only [Result.andThen]
    rw [findNow_run h]
    simp [Sem.run_pure]

/-- what the entries say at a key -/
def getE (es : List (Ent κ)) (k : κ) : Option Value := (es.find? (fun e => decide (k = e.1))).map (fun e => e.2.1)
theorem findE_get (k : κ) : ∀ (es : List (Ent κ)) (i : Nat), (findE k es i).map Prod.snd = getE es k
  | [], i => rfl
  | e :: es, i => by
    by_cases h : k = e.1
    · simp [findE, getE, h]
    · simp only [findE, getE, h, if_false, List.find?_cons, decide_false]
      have := findE_get k es (i + 1)
      simpa [getE] using this

/-- BLOCK b OF w IS A MAP OF AT MOST n ENTRIES THAT ANSWERS f. -/
def MapAt (w : World) (enc : κ → Value) (b : Nat) (n : Nat) (f : κ → Option Value) : Prop :=
  ∃ (es : List (Ent κ)) (clock : Nat), w.heap[b]? = some (.map (es.map (mkE enc)).toArray clock) ∧ (es.map Prod.fst).Nodup ∧ es.length ≤ n ∧ ∀ k, f k = getE es k

theorem MapAt.made (w : World) (enc : κ → Value) : MapAt (w.alloc (.map #[] 0)) enc w.heap.size 0 (fun _ => none) :=
  ⟨[], 0, World.alloc_heap_new w _, by simp, Nat.le_refl _, fun _ => rfl⟩
theorem MapAt.lt {w : World} {enc : κ → Value} {b n : Nat} {f : κ → Option Value} (h : MapAt w enc b n f) : b < w.heap.size := by
  obtain ⟨es, clock, hb, _⟩ := h
  exact (Array.getElem?_eq_some_iff.1 hb).1
theorem MapAt.move {w w' : World} {enc : κ → Value} {b n : Nat} {f : κ → Option Value} (h : MapAt w enc b n f) (hk : w'.heap[b]? = w.heap[b]?) : MapAt w' enc b n f := by
  obtain ⟨es, clock, hb, hr⟩ := h
  exact ⟨es, clock, hk.trans hb, hr⟩

/-- m[k], with or without ok -/
theorem MapAt.lookup {w : World} {enc : κ → Value} {b n : Nat} {f : κ → Option Value} (h : MapAt w enc b n f) {t kt e : TypeId} (K : KeyOK P kt enc) (ht : P.underlying t = some (.map kt e)) {z : Value} (hz : ∀ w, (zeroValue e).run P w = .ok z w) (k : κ) (ok : Bool) :
    (Instr.lookup t (.map (some b)) (enc k) ok).run P w = .ok (if ok then .tuple #[(f k).getD z, .bool (f k).isSome] else (f k).getD z) w := by
  obtain ⟨es, clock, hb, _, _, hf⟩ := h
  have hg : (getObj b).run P w = .ok (.map (es.map (mkE enc)).toArray clock) w := by simp [getObj, Sem.run, hb]
  have hfe := findE_get k es 0
  rw [← hf k] at hfe
  simp only [Instr.lookup]
  rw [Sem.run_bind, run_underlying ht]
  simp only [Result.andThen]
  rw [Sem.run_bind]
  simp only [Sem.run_bind, hg, Result.andThen, Sem.run_pure, K.chk, findKey_run K]
  cases hF : findE k es 0 with
  | none =>
    rw [hF] at hfe
    have : f k = none := by simpa using hfe.symm
    simp [this, hz, Result.andThen]
  | some p =>
    obtain ⟨i, v⟩ := p
    rw [hF] at hfe
    have : f k = some v := by simpa using hfe.symm
    simp [this]

def upd (k : κ) (v : Value) : List (Ent κ) → List (Ent κ)
  | [] => []
  | e :: es => if k = e.1 then (e.1, v, e.2.2) :: es else e :: upd k v es
def del (k : κ) : List (Ent κ) → List (Ent κ)
  | [] => []
  | e :: es => if k = e.1 then es else e :: del k es

theorem findE_ge (k : κ) : ∀ (es : List (Ent κ)) (j i : Nat) (v : Value), findE k es j = some (i, v) → j ≤ i ∧ i < j + es.length
  | [], j, i, v, h => by simp [findE] at h
  | e :: es, j, i, v, h => by
    by_cases hk : k = e.1
    · simp [findE, hk] at h; simp; omega
    · simp only [findE, hk, if_false] at h
      have := findE_ge k es (j + 1) i v h
      simp; omega

theorem upd_modify (enc : κ → Value) (k : κ) (v : Value) : ∀ (es : List (Ent κ)) (j i : Nat) (u : Value), findE k es j = some (i, u) →
    (es.map (mkE enc)).modify (i - j) (fun e => { e with key := enc k, val := v }) = (upd k v es).map (mkE enc)
  | [], j, i, u, h => by simp [findE] at h
  | e :: es, j, i, u, h => by
    by_cases hk : k = e.1
    · simp [findE, hk] at h
      obtain ⟨rfl, _⟩ := h
      simp [upd, hk, mkE]
    · simp only [findE, hk, if_false] at h
      have hle := (findE_ge k es (j + 1) i u h).1
      obtain ⟨m, hm⟩ : ∃ m, i - j = m + 1 := ⟨i - j - 1, by omega⟩
      have ih := upd_modify enc k v es (j + 1) i u h
      have hm2 : i - (j + 1) = m := by omega
      rw [hm2] at ih
      rw [hm]
      simp [upd, hk, ih]

theorem del_erase (enc : κ → Value) (k : κ) : ∀ (es : List (Ent κ)) (j i : Nat) (u : Value), findE k es j = some (i, u) →
    (es.map (mkE enc)).eraseIdx (i - j) = (del k es).map (mkE enc)
  | [], j, i, u, h => by simp [findE] at h
  | e :: es, j, i, u, h => by
    by_cases hk : k = e.1
    · simp [findE, hk] at h
      obtain ⟨rfl, _⟩ := h
      simp [del, hk]
    · simp only [findE, hk, if_false] at h
      have hle := (findE_ge k es (j + 1) i u h).1
      obtain ⟨m, hm⟩ : ∃ m, i - j = m + 1 := ⟨i - j - 1, by omega⟩
      have ih := del_erase enc k es (j + 1) i u h
      have hm2 : i - (j + 1) = m := by omega
      rw [hm2] at ih
      rw [hm]
      simp [del, hk, ih]

theorem getE_upd (k k' : κ) (v : Value) : ∀ es : List (Ent κ), (∃ u, getE es k = some u) → getE (upd k v es) k' = if k' = k then some v else getE es k'
  | [], h => by obtain ⟨u, h⟩ := h; simp [getE] at h
  | e :: es, h => by
    by_cases hk : k = e.1
    · subst hk
      by_cases h' : k' = e.1
      · simp [upd, getE, h']
      · simp [upd, getE, h']
    · have h2 : ∃ u, getE es k = some u := by obtain ⟨u, h⟩ := h; exact ⟨u, by simpa [getE, hk] using h⟩
      have ih := getE_upd k k' v es h2
      by_cases h' : k' = e.1
      · have : ¬ k' = k := fun e2 => hk (e2.symm.trans h')
        simp [upd, hk, getE, h']
        intro e3; exact absurd e3.symm hk
      · simpa [upd, hk, getE, h'] using ih
theorem upd_keys (k : κ) (v : Value) : ∀ es : List (Ent κ), (upd k v es).map Prod.fst = es.map Prod.fst
  | [] => rfl
  | e :: es => by
    by_cases hk : k = e.1
    · simp [upd, hk]
    · simp [upd, hk, upd_keys k v es]
theorem getE_none {k : κ} : ∀ {es : List (Ent κ)}, getE es k = none ↔ ∀ e ∈ es, k ≠ e.1
  | [] => by simp [getE]
  | e :: es => by
    by_cases hk : k = e.1
    · simp [getE, hk]
    · have := @getE_none k es
      simp [getE, hk] at this ⊢
theorem del_sub (k : κ) : ∀ es : List (Ent κ), List.Sublist (del k es) es
  | [] => List.Sublist.slnil
  | e :: es => by
    by_cases hk : k = e.1
    · simp [del, hk]
    · simp only [del, hk, if_false]; exact (del_sub k es).cons_cons _
theorem getE_del (k k' : κ) : ∀ es : List (Ent κ), (es.map Prod.fst).Nodup → getE (del k es) k' = if k' = k then none else getE es k'
  | [], _ => by simp [del, getE]
  | e :: es, h => by
    simp only [List.map_cons, List.nodup_cons] at h
    by_cases hk : k = e.1
    · subst hk
      by_cases h' : k' = e.1
      · subst h'
        simp only [del, if_true]
        rw [getE_none]
        intro x hx e1
        exact h.1 (by rw [e1]; exact List.mem_map.2 ⟨x, hx, rfl⟩)
      · simp [del, getE, h']
    · have ih := getE_del k k' es h.2
      by_cases h' : k' = e.1
      · have : ¬ k' = k := fun e2 => hk (e2.symm.trans h')
        simp [del, hk, getE, h']
        intro e3; exact absurd e3.symm hk
      · simpa [del, hk, getE, h'] using ih
theorem getE_push (k k' : κ) (v : Value) (c : Nat) : ∀ es : List (Ent κ), getE es k = none → getE (es ++ [(k, v, c)]) k' = if k' = k then some v else getE es k'
  | [], _ => by
    by_cases h : k' = k <;> simp [getE, h]
  | e :: es, h => by
    have hk : ¬ k = e.1 := by rw [getE_none] at h; exact h e (by simp)
    have h2 : getE es k = none := by simpa [getE, hk] using h
    have ih := getE_push k k' v c es h2
    by_cases h' : k' = e.1
    · have : ¬ k' = k := fun e2 => hk (e2.symm.trans h')
      simp [getE, h']
      intro e3; exact absurd e3.symm hk
    · simpa [getE, h'] using ih

def setBlk (w : World) (b : Nat) (o : Obj) : World := { w with heap := w.heap.setIfInBounds b o }
theorem setBlk_grown (w : World) (b : Nat) (o : Obj) : w.grownBy (setBlk w b o) (some b) :=
  ⟨rfl, rfl, rfl, by simp [setBlk], fun i _ hi => by
    simp only [setBlk]
    rw [Array.getElem?_setIfInBounds_ne]
    intro e; exact hi (by rw [e])⟩
theorem setBlk_same {w : World} {b : Nat} (h : b < w.heap.size) (o : Obj) : (setBlk w b o).heap[b]? = some o := by
  simp [setBlk, h]
theorem run_setObj_blk {w : World} {b : Nat} {es : Array MapEntry} {clock : Nat} (o : Obj) (h : w.heap[b]? = some (.map es clock)) : (setObj b o).run P w = .ok () (setBlk w b o) := by
  simp [setObj, Sem.run, h, setBlk]

/-- m[k] = v -/
theorem MapAt.update {w : World} {enc : κ → Value} {b n : Nat} {f : κ → Option Value} (h : MapAt w enc b n f) {t kt e : TypeId} (K : KeyOK P kt enc) (ht : P.underlying t = some (.map kt e)) (k : κ) (v : Value) :
    ∃ w', (Instr.mapUpdate t (.map (some b)) (enc k) v).run P w = .ok () w' ∧ MapAt w' enc b (n + 1) (fun k' => if k' = k then some v else f k') ∧ w.grownBy w' (some b) := by
  have hlt := h.lt
  obtain ⟨es, clock, hb, hn, hs, hf⟩ := h
  have hg : (getObj b).run P w = .ok (.map (es.map (mkE enc)).toArray clock) w := by simp [getObj, Sem.run, hb]
  have hfe := findE_get k es 0
  rw [← hf k] at hfe
  cases hF : findE k es 0 with
  | none =>
    refine ⟨setBlk w b (.map ((es ++ [(k, v, clock)]).map (mkE enc)).toArray (clock + 1)), ?_, ⟨es ++ [(k, v, clock)], clock + 1, setBlk_same hlt _, ?_, by simp; omega, ?_⟩, setBlk_grown _ _ _⟩
    · simp only [Instr.mapUpdate]
      rw [Sem.run_bind, run_underlying ht]
      simp only [Result.andThen, Sem.run_bind, hg, K.chk, findKey_run K, hF]
      rw [run_setObj_blk _ hb]
      simp [mkE]
    · have hnone : getE es k = none := by rw [← hf k]; rw [hF] at hfe; simpa using hfe.symm
      rw [getE_none] at hnone
      rw [List.map_append, List.nodup_append]
      refine ⟨hn, by simp, ?_⟩
      intro a ha c hc e1
      simp at hc
      subst hc e1
      obtain ⟨x, hx, rfl⟩ := List.mem_map.1 ha
      exact hnone x hx rfl
    · intro k'
      have hnone : getE es k = none := by rw [← hf k]; rw [hF] at hfe; simpa using hfe.symm
      show (if k' = k then some v else f k') = _
      rw [getE_push k k' v clock es hnone, hf k']
  | some p =>
    obtain ⟨i, u⟩ := p
    have hget : getE es k = some u := by rw [← hf k]; rw [hF] at hfe; simpa using hfe.symm
    have hmod := upd_modify enc k v es 0 i u hF
    rw [Nat.sub_zero] at hmod
    refine ⟨setBlk w b (.map ((upd k v es).map (mkE enc)).toArray clock), ?_, ⟨upd k v es, clock, setBlk_same hlt _, by rw [upd_keys]; exact hn, ?_, ?_⟩, setBlk_grown _ _ _⟩
    · have hkey : ((((es.map (mkE enc)).toArray)[i]?).map (·.key)).getD (enc k) = enc k := by
        have hi := (findE_ge k es 0 i u hF).2
        have : ∀ (es : List (Ent κ)) (j i : Nat) (u : Value), findE k es j = some (i, u) → ((es.map (mkE enc))[i - j]?).map (·.key) = some (enc k) := by
          intro es
          induction es with
          | nil => intro j i u h; simp [findE] at h
          | cons e es ih =>
            intro j i u h
            by_cases hk : k = e.1
            · simp [findE, hk] at h
              obtain ⟨rfl, _⟩ := h
              simp [mkE, hk]
            · simp only [findE, hk, if_false] at h
              have hle := (findE_ge k es (j + 1) i u h).1
              obtain ⟨m, hm⟩ : ∃ m, i - j = m + 1 := ⟨i - j - 1, by omega⟩
              have := ih (j + 1) i u h
              have hm2 : i - (j + 1) = m := by omega
              rw [hm2] at this
              rw [hm]
              simpa using this
        have h2 := this es 0 i u hF
        rw [Nat.sub_zero] at h2
        simp only [List.getElem?_toArray]
        rw [h2]
        rfl
      simp only [Instr.mapUpdate]
      rw [Sem.run_bind, run_underlying ht]
      simp only [Result.andThen, Sem.run_bind, hg, K.chk, findKey_run K, hF, hkey, keyThatStays, K.bits, if_true, Sem.run_pure]
      rw [run_setObj_blk _ hb]
      simp [List.modify_toArray, hmod]
    · have : (upd k v es).length = es.length := by have := congrArg List.length (upd_keys k v es); simpa using this
      omega
    · intro k'
      show (if k' = k then some v else f k') = _
      rw [getE_upd k k' v es ⟨u, hget⟩, hf k']

/-- delete(m, k) -/
theorem MapAt.delete {w : World} {enc : κ → Value} {b n : Nat} {f : κ → Option Value} (h : MapAt w enc b n f) {t kt e ty : TypeId} (K : KeyOK P kt enc) (ht : P.underlying t = some (.map kt e)) (k : κ) (ats : Array TypeId) (hats : ats[0]? = some t) :
    ∃ w', (Builtin.delete_ ats ty #[.map (some b), enc k]).run P w = .ok (.tuple #[]) w' ∧ MapAt w' enc b n (fun k' => if k' = k then none else f k') ∧ w.grownBy w' (some b) := by
  have hlt := h.lt
  obtain ⟨es, clock, hb, hn, hs, hf⟩ := h
  have hg : (getObj b).run P w = .ok (.map (es.map (mkE enc)).toArray clock) w := by simp [getObj, Sem.run, hb]
  have hfe := findE_get k es 0
  rw [← hf k] at hfe
  cases hF : findE k es 0 with
  | none =>
    have hnone : getE es k = none := by rw [← hf k]; rw [hF] at hfe; simpa using hfe.symm
    refine ⟨setBlk w b (.map (es.map (mkE enc)).toArray clock), ?_, ⟨es, clock, setBlk_same hlt _, hn, hs, ?_⟩, setBlk_grown _ _ _⟩
    · simp only [Builtin.delete_, hats, List.getElem?_toArray, List.getElem?_cons_zero, List.getElem?_cons_succ]
      rw [Sem.run_bind, run_underlying ht]
      simp only [Result.andThen, Sem.run_bind, hg, K.chk, findKey_run K, hF, Sem.run_pure]
      rw [run_setObj_blk _ hb]
    · intro k'
      by_cases hk : k' = k
      · subst hk; simp [hnone]
      · simp [hk, hf]
  | some p =>
    obtain ⟨i, u⟩ := p
    have her := del_erase enc k es 0 i u hF
    rw [Nat.sub_zero] at her
    have hi := (findE_ge k es 0 i u hF).2
    refine ⟨setBlk w b (.map ((del k es).map (mkE enc)).toArray clock), ?_, ⟨del k es, clock, setBlk_same hlt _, ((del_sub k es).map Prod.fst).nodup hn, Nat.le_trans (del_sub k es).length_le hs, ?_⟩, setBlk_grown _ _ _⟩
    · simp only [Builtin.delete_, hats, List.getElem?_toArray, List.getElem?_cons_zero, List.getElem?_cons_succ]
      rw [Sem.run_bind, run_underlying ht]
      simp only [Result.andThen, Sem.run_bind, hg, K.chk, findKey_run K, hF, Sem.run_pure]
      rw [run_setObj_blk _ hb]
      have : ((es.map (mkE enc)).toArray).eraseIdxIfInBounds i = ((del k es).map (mkE enc)).toArray := by
        unfold Array.eraseIdxIfInBounds
        rw [dif_pos (by simpa using hi)]
        simp [her]
      rw [this]
    · intro k'
      show (if k' = k then none else f k') = _
      rw [getE_del k k' es hn, hf k']
end Go.Proofs.YtfhmepdbbhcncaaM

namespace Go.Proofs.Ytfhmepdbbhcncaa.P
open Go.RowKit Go.Proofs.YtfhmepdbbhcncaaW.PrintWords Go.Proofs.YtfhmepdbbhcncaaW.PrintLast Go.Proofs.YtfhmepdbbhcncaaW.PrintMore Go.Proofs.YtfhmepdbbhcncaaM
set_option linter.unusedVariables false
set_option linter.unusedSimpArgs false

/-- the cells of a search -/
def sArr (n : Int) (s : Value) (sv st : Int) (come : List Int) (m : Value) : Array Value := ([.int .i64 n, s, .int .i64 sv, .int .i64 st] ++ (come.map (Value.int .i64) ++ [m])).toArray
structure SAt (W : World) (B : Nat) (n : Int) (s : Value) (sv st : Int) (come : List Int) (m : Value) : Prop where
  blk : Blk W B 96 (sArr n s sv st come m)
  len : come.length = 20
section
variable {W W' : World} {B : Nat} {n sv st : Int} {s m : Value} {come : List Int}
theorem SAt.c0 (h : SAt W B n s sv st come m) : W.cell? ⟨B, 0, none⟩ = some (.int .i64 n) := by rw [h.blk.cell]; rfl
theorem SAt.c1 (h : SAt W B n s sv st come m) : W.cell? ⟨B, 1, none⟩ = some s := by rw [h.blk.cell]; rfl
theorem SAt.c2 (h : SAt W B n s sv st come m) : W.cell? ⟨B, 2, none⟩ = some (.int .i64 sv) := by rw [h.blk.cell]; rfl
theorem SAt.c3 (h : SAt W B n s sv st come m) : W.cell? ⟨B, 3, none⟩ = some (.int .i64 st) := by rw [h.blk.cell]; rfl
theorem SAt.cm (h : SAt W B n s sv st come m) (v : Nat) (hv : v < 20) : W.cell? ⟨B, 4 + v, none⟩ = some (.int .i64 (come.getD v 0)) := by
  have := h.len
  rw [h.blk.cell]
  simp only [sArr, List.getElem?_toArray]
  rw [List.getElem?_append_right (by simp)]
  simp only [List.length_cons, List.length_nil]
  rw [show 4 + v - (0 + 1 + 1 + 1 + 1) = v by omega, List.getElem?_append_left (by simp; omega)]
  simp [show v < come.length by omega]
theorem SAt.cmap (h : SAt W B n s sv st come m) : W.cell? ⟨B, 24, none⟩ = some m := by
  have := h.len
  rw [h.blk.cell]
  simp only [sArr, List.getElem?_toArray]
  rw [List.getElem?_append_right (by simp), List.getElem?_append_right (by simp; omega)]
  simp [this]
theorem SAt.fz (h : SAt W B n s sv st come m) (j : Nat) : W.frozen? ⟨B, j, none⟩ = false := h.blk.fz j
theorem SAt.lt (h : SAt W B n s sv st come m) : B < W.heap.size := h.blk.lt
theorem SAt.kept {row : Option Nat} (h : SAt W B n s sv st come m) (hg : W.grownBy W' row) (hne : some B ≠ row) : SAt W' B n s sv st come m := ⟨h.blk.kept hg hne, h.len⟩
theorem SAt.below {k : Nat} (h : SAt W B n s sv st come m) (hb : Below k W W') (hB : B < k) : SAt W' B n s sv st come m := ⟨h.blk.below hb hB, h.len⟩
theorem SAt.alloc (h : SAt W B n s sv st come m) (o : Obj) : SAt (W.alloc o) B n s sv st come m := ⟨h.blk.alloc o, h.len⟩
theorem SAt.setCome (h : SAt W B n s sv st come m) (v : Nat) (hv : v < 20) (t : Int) : SAt (W.setCell ⟨B, 4 + v, none⟩ (.int .i64 t)) B n s sv st (come.set v t) m := by
  have hl := h.len
  refine ⟨?_, by simpa using hl⟩
  have := h.blk.set (4 + v) (.int .i64 t)
  have e : (sArr n s sv st come m).setIfInBounds (4 + v) (.int .i64 t) = sArr n s sv st (come.set v t) m := by
    simp only [sArr, List.setIfInBounds_toArray]
    rw [List.set_append_right _ _ (by simp)]
    simp only [List.length_cons, List.length_nil]
    rw [show 4 + v - (0 + 1 + 1 + 1 + 1) = v by omega, List.set_append_left _ _ (by simp; omega), List.map_set]
  rwa [e] at this
theorem SAt.setMap (h : SAt W B n s sv st come m) (m' : Value) : SAt (W.setCell ⟨B, 24, none⟩ m') B n s sv st come m' := by
  have hl := h.len
  refine ⟨?_, hl⟩
  have := h.blk.set 24 m'
  have e : (sArr n s sv st come m).setIfInBounds 24 m' = sArr n s sv st come m' := by
    simp only [sArr, List.setIfInBounds_toArray]
    rw [List.set_append_right _ _ (by simp), List.set_append_right _ _ (by simp; omega)]
    simp [hl]
  rwa [e] at this
end

theorem below_dN {B : Nat} {a w : World} (h : Below B a w) (q : Nat) : Below B a (w.drewN q) := ⟨h.os, h.tape, h.output, h.size, h.block⟩

set_option maxHeartbeats 400000 in
set_option maxRecDepth 100000 in
theorem soonest_calls (t : Int) (m : S58) (w : World) : Calls Try.prog 55 #[.int .i64 t, enc58 m] w fun e w' => e = .returned (.tuple #[.int .i64 (max t m.f2.f0), .bool (decide (t ≤ m.f2.f1))]) ∧ Below w.heap.size w w' := by
  rcases m with ⟨f, tt, ⟨lo, hi⟩⟩
  show Calls Try.prog 55 #[.int .i64 t, .agg #[.int .i64 f, .int .i64 tt, .int .i64 lo, .int .i64 hi]] w _
  by_cases hm : t < lo
  · have F := Lib.hid (show max t lo = lo by omega)
    go_enter Try.func55, Try.ntmps55
    go_wp2
    go_quiet (fail)
    go_wp2
    go_ret2
    exact ⟨by rw [F.out]; rfl, below_dN (box1 _ _) _⟩
  · have F := Lib.hid (show max t lo = t by omega)
    go_enter Try.func55, Try.ntmps55
    go_wp2
    go_quiet (fail)
    go_wp2
    go_ret2
    exact ⟨by rw [F.out]; rfl, below_dN (box1 _ _) _⟩

set_option maxHeartbeats 400000 in
set_option maxRecDepth 100000 in
theorem surest_calls (t : Int) (m : S58) (w : World) : Calls Try.prog 56 #[.int .i64 t, enc58 m] w fun e w' => e = .returned (.tuple #[.int .i64 m.f2.f1, .bool (decide (t ≤ m.f2.f0))]) ∧ Below w.heap.size w w' := by
  rcases m with ⟨f, tt, ⟨lo, hi⟩⟩
  show Calls Try.prog 56 #[.int .i64 t, .agg #[.int .i64 f, .int .i64 tt, .int .i64 lo, .int .i64 hi]] w _
  go_enter Try.func56, Try.ntmps56
  go_wp2
  go_quiet (fail)
  go_wp2
  go_ret2
  exact ⟨rfl, below_dN (box1 _ _) _⟩

set_option maxHeartbeats 400000 in
set_option maxRecDepth 100000 in
theorem any_calls (p : Value) (m : S58) (w : World) : Calls Try.prog 62 #[p, enc58 m] w fun e w' => e = .returned (.bool true) ∧ Below w.heap.size w w' := by
  rcases m with ⟨f, tt, ⟨lo, hi⟩⟩
  show Calls Try.prog 62 #[p, .agg #[.int .i64 f, .int .i64 tt, .int .i64 lo, .int .i64 hi]] w _
  go_enter Try.func62, Try.ntmps62
  go_wp2
  go_ret
  exact ⟨rfl, box1 _ _⟩

set_option maxHeartbeats 400000 in
set_option maxRecDepth 100000 in
theorem notTo_calls (b : Nat) (v : Int) (m : S58) (w : World) (hb : w.cell? ⟨b, 0, none⟩ = some (.int .i64 v)) : Calls Try.prog 66 #[enc58 m, .pointer (some ⟨b, 0, none⟩)] w fun e w' => e = .returned (.bool (m.f1 != v)) ∧ Below w.heap.size w w' := by
  rcases m with ⟨f, tt, ⟨lo, hi⟩⟩
  show Calls Try.prog 66 #[.agg #[.int .i64 f, .int .i64 tt, .int .i64 lo, .int .i64 hi], .pointer (some ⟨b, 0, none⟩)] w _
  have hlt := World.block_lt_of_cell? w _ hb
  have hlt' : b < w.heap.size := hlt
  have hne : ¬ b = w.heap.size := by omega
  go_enter Try.func66, Try.ntmps66
  go_wp2
  go_ret
  exact ⟨rfl, box1 _ _⟩

set_option maxHeartbeats 400000 in
set_option maxRecDepth 100000 in
theorem come_call (W : World) (b B : Nat) (n : Int) (s : Value) (sv st : Int) (come : List Int) (m : Value) (v : Int) (hv0 : 0 ≤ v) (hv1 : v < 20)
    (hb : W.cell? ⟨b, 0, none⟩ = some (.pointer (some ⟨B, 0, none⟩))) (h : SAt W B n s sv st come m) :
    Calls Try.prog 77 #[.int .i64 v, .pointer (some ⟨b, 0, none⟩)] W fun e w' => e = .returned (.int .i64 (come.getD v.toNat 0)) ∧ Below W.heap.size W w' := by
  have hc := h.cm v.toNat (by omega)
  clear h
  go_enter Try.func77, Try.ntmps77
  go_wp2
  go_ret
  exact ⟨rfl, Below.refl _ _⟩

set_option maxHeartbeats 400000 in
set_option maxRecDepth 100000 in
theorem same_call (W : World) (b : Nat) (v x : Int) (hb : W.cell? ⟨b, 0, none⟩ = some (.int .i64 v)) :
    Calls Try.prog 79 #[.int .i64 x, .pointer (some ⟨b, 0, none⟩)] W fun e w' => e = .returned (.bool (x == v)) ∧ Below W.heap.size W w' := by
  go_enter Try.func79, Try.ntmps79
  go_wp2
  go_ret
  exact ⟨rfl, Below.refl _ _⟩

set_option maxHeartbeats 400000 in
set_option maxRecDepth 100000 in
theorem out_call (W : World) (a : Addr) (v : Int) :
    Calls Try.prog 80 #[.pointer (some a), .int .i64 v] W fun e w' => e = .returned (.func (.func 84) #[] #[.pointer (some ⟨W.heap.size, 0, none⟩), .pointer (some ⟨W.heap.size + 1, 0, none⟩)]) ∧ w' = (W.alloc (.cells #[.pointer (some a)] 81)).alloc (.cells #[.int .i64 v] 3) := by
  go_enter Try.func80, Try.ntmps80
  go_wp2
  go_ret
  exact ⟨rfl, rfl⟩
end Go.Proofs.Ytfhmepdbbhcncaa.P

namespace Go.Proofs.Ytfhmepdbbhcncaa.P
open Go.RowKit Go.Shelf Go.Proofs.YtfhmepdbbhcncaaW.PrintWords Go.Proofs.YtfhmepdbbhcncaaW.PrintLast Go.Proofs.YtfhmepdbbhcncaaW.PrintMore Go.Proofs.YtfhmepdbbhcncaaM
attribute [local go_sem] Oper.semAt_some
set_option linter.unusedVariables false
set_option linter.unusedSimpArgs false

/-- a move as the iterator hands it over: its name, and itself; it goes to a vessel -/
abbrev OutMove := { x : Int × S58 // 0 ≤ x.2.f1 ∧ x.2.f1 < 20 }
def encO (x : OutMove) : Array Value := #[.int .i64 x.1.1, enc58 x.1.2]
/-- the moves out of a vessel among the first k -/
def outsTo (v : Int) (l : List S58) : Nat → List (Int × S58)
  | 0 => []
  | k + 1 => outsTo v l k ++ if (l.getD k z58).f0 = v then [((k : Int), l.getD k z58)] else []
/-- what a round of a loop over the moves out of a vessel keeps -/
def KpO (B bx bv : Nat) (W W' : World) : Prop := W.heap.size ≤ W'.heap.size ∧ (∀ k, k < B → W'.heap[k]? = W.heap[k]?) ∧ W'.heap[bx]? = W.heap[bx]? ∧ W'.heap[bv]? = W.heap[bv]?

theorem hp56 : Kd.Heap k56 := Kd.heap_iso _ (Kd.heap_pair (Kd.heap_int .i64) (Kd.heap_int .i64))
theorem hp58 : Kd.Heap k58 := Kd.heap_iso _ (Kd.heap_pair (Kd.heap_int .i64) (Kd.heap_pair (Kd.heap_int .i64) hp56))

theorem outsTo_len (v : Int) (l : List S58) : ∀ k, (outsTo v l k).length ≤ k
  | 0 => by simp [outsTo]
  | k + 1 => by
    have := outsTo_len v l k
    simp only [outsTo, List.length_append]
    split <;> simp <;> omega

set_option maxHeartbeats 2000000 in
set_option maxRecDepth 100000 in
theorem out_stops (A : Option Addr) (c : Nat) (l : List S58) (hl : ∀ m ∈ l, 0 ≤ m.f1 ∧ m.f1 < 20) (v : Int) (B S bx bv : Nat) (w0 w : World)
    (hB : w0.heap.size = B) (hlt : B ≤ w.heap.size) (hr : Kd.C k58 w0 A l.length l) (hkeep : ∀ k, k < B → w.heap[k]? = w0.heap[k]?)
    (hx : Blk w bx 81 #[.pointer (some ⟨S, 0, none⟩)]) (hv : Blk w bv 3 #[.int .i64 v]) (hS : w.cell? ⟨S, 1, none⟩ = some (.slice A l.length c)) :
    SeqStopsK Fence.wide 3 Try.prog 84 #[.pointer (some ⟨bx, 0, none⟩), .pointer (some ⟨bv, 0, none⟩)] encO (KpO B bx bv) (fun xs => xs.map (·.1) = outsTo v l l.length) (fun _ => True) l.length w := by
  intro ll J Jx W hW hJ hJx hY h0
  have hro : Fence.wide.round = none := rfl
  refine callsIn_of_wp Try.func84 rfl trivial ?_ hro
  simp only [Try.ntmps84, List.size_toArray, List.length_cons, List.length_nil, Nat.reduceAdd, Nat.reduceSub, Array.replicate_succ, Array.replicate_zero, List.push_toArray, List.append_toArray, List.nil_append, List.cons_append]
  have cx : W.cell? ⟨bx, 0, none⟩ = some (.pointer (some ⟨S, 0, none⟩)) := (hx.below hW hx.lt).cell 0
  have cS : W.cell? ⟨S, 1, none⟩ = some (.slice A l.length c) := cell_in hW hS
  have HV := Aside0.mk (hv.below hW hv.lt)
  have HX := Aside0.mk (hx.below hW hx.lt)
  have HK := Aside0.mk (show ∀ k, k < B → W.heap[k]? = w0.heap[k]? from fun k hk => (hW.block k (by omega)).trans (hkeep k hk))
  have HSZ := Aside0.mk (show B ≤ W.heap.size from Nat.le_trans hlt hW.size)
  have HLE := hr.2.1
  have HR := Aside0.mk hr
  have HL := Aside0.mk hl
  have HBX := Aside0.mk (show bx < W.heap.size from Nat.lt_of_lt_of_le hx.lt hW.size)
  have HBV := Aside0.mk (show bv < W.heap.size from Nat.lt_of_lt_of_le hv.lt hW.size)
  have HW0 := Aside0.mk hB
  have HY := Aside0.mk hY
  have HJ := Aside0.mk hJ
  clear hr hl hkeep hx hv hS hlt hB hY hJ
  gi_wp2
  gi_loopg [12] l.length (fun kq v12 w' => ∃ (k : Nat) (pre : List OutMove), v12 = .int .i64 k ∧ Aside0 (k + kq = l.length) ∧ Aside0 (pre.map (·.1) = outsTo v l k) ∧ Aside0 (J pre w') ∧ Aside0 (W.heap.size ≤ w'.heap.size) ∧ Aside0 (∀ k, k < B → w'.heap[k]? = w0.heap[k]?) ∧ Aside0 (Blk w' bv 3 #[.int .i64 v]))
  case atStart => exact ⟨0, [], rfl, ⟨by omega⟩, ⟨rfl⟩, ⟨h0⟩, ⟨Nat.le_refl _⟩, HK, HV⟩
  case round =>
    clear h0 cx cS
    obtain ⟨k, pre, rfl, HN, HP, HJP, HSW, HKW, HVW⟩ := hrel
    cases gk with
    | zero =>
      have hk : k = l.length := by have := HN.out; omega
      have hlt2 : decide (k < l.length) = false := by rw [hk]; simp
      gi_wp2
      go_end0
      exact ⟨⟨_, rfl⟩, .inl ⟨pre, by rw [← hk]; exact HP.out, HJP.out⟩⟩
    | succ k1 =>
      have hk : k < l.length := by have := HN.out; omega
      have hlt2 : decide (k < l.length) = true := by simp [hk]
      have hC : Kd.C k58 wr A l.length l := hp58.C (fun q hq => HKW.out q (by rw [← HW0.out]; exact hq)) HR.out
      obtain ⟨ad, e0, hc0, hc1, hc2, hc3⟩ := at_T58 hC (k : Int) (by omega) (by omega)
      cases e0
      have hmem : rd_T58 l (k : Int) ∈ l := by rw [rd_T58_nat l k hk]; exact List.getElem_mem hk
      have hgd : l.getD k z58 = rd_T58 l (k : Int) := by simp [rd_T58]
      have HM := HL.out _ hmem
      have HO : Aside0 (outsTo v l (k + 1) = outsTo v l k ++ if (rd_T58 l (k : Int)).f0 = v then [((k : Int), rd_T58 l (k : Int))] else []) := ⟨by rw [outsTo, hgd]⟩
      rw [Int.toNat_natCast] at hc0 hc1 hc2 hc3
      clear hC hmem hgd
      generalize rd_T58 l (k : Int) = m at *
      rcases m with ⟨f, tt, ⟨lo, hi⟩⟩
      have hpl : pre.length < l.length := by
        have h1 := congrArg List.length HP.out
        have h2 := outsTo_len v l k
        simp only [List.length_map] at h1
        omega
      have HJ1 : Aside0 (J pre (wr.alloc (.cells #[.int .i64 f, .int .i64 tt, .int .i64 lo, .int .i64 hi] 58))) := ⟨HJ.out pre wr _ none HJP.out (World.grownBy_alloc wr _ none) (fun r e => by cases e)⟩
      have hcv : wr.cell? ⟨bv, 0, none⟩ = some (.int .i64 v) := HVW.out.cell 0
      have hne : bv < wr.heap.size := HVW.out.lt
      by_cases hfv : f = v
      · have hq : (f == v) = true := by simp [hfv]
        obtain ⟨fn, tmps, assign, body, hy, hR⟩ := HY.out pre ⟨((k : Int), ⟨f, tt, ⟨lo, hi⟩⟩), HM⟩ _ HJ1.out hpl
        have hy' : (Instr.yield ll #[.int .i64 (k : Int), .agg #[.int .i64 f, .int .i64 tt, .int .i64 lo, .int .i64 hi]]).run Try.prog (wr.alloc (.cells #[.int .i64 f, .int .i64 tt, .int .i64 lo, .int .i64 hi] 58)) = _ := hy
        have HFV := Aside0.mk hfv
        clear hfv hy
        gi_wp2
        refine hR.mono ?_
        rintro e W3 (⟨rfl, hJ3, hk3⟩ | ⟨rfl, hJx3⟩)
        · gi_wp2
          gi_roundg k1
          case rel => exact ⟨k + 1, _, by go_num, ⟨by have := HN.out; omega⟩, ⟨by rw [HO.out, if_pos HFV.out, List.map_append, HP.out]; rfl⟩, ⟨hJ3⟩, ⟨by have := HSW.out; have := hk3.1; simp at this; omega⟩, ⟨fun q hq => (hk3.2.1 q hq).trans ((World.grownBy_alloc wr _ none).block q (by have := HSW.out; have := HSZ.out; omega) (by simp) |>.trans (HKW.out q hq))⟩, ⟨hk3.2.2.2.trans (HVW.out.alloc _)⟩⟩
          case measure => omega
        · gi_wp2
          refine bodyPost_ret (results_none rfl _ _ _) rfl ?_
          exact ⟨⟨_, rfl⟩, .inr ⟨_, trivial, hJx3⟩⟩
      · have hq : (f == v) = false := by simp [hfv]
        have HFV := Aside0.mk hfv
        clear hfv
        gi_wp2
        refine ⟨fun _ h => (by cases h), ?_⟩
        gi_wp2
        gi_roundg k1
        case rel => exact ⟨k + 1, pre, by go_num, ⟨by have := HN.out; omega⟩, ⟨by rw [HO.out, if_neg HFV.out, List.append_nil]; exact HP.out⟩, HJ1, ⟨by have := HSW.out; simp; omega⟩, ⟨fun q hq => ((World.grownBy_alloc wr _ none).block q (by have := HSW.out; have := HSZ.out; omega) (by simp)).trans (HKW.out q hq)⟩, ⟨HVW.out.alloc _⟩⟩
        case measure => omega
end Go.Proofs.Ytfhmepdbbhcncaa.P

namespace Go.Proofs.YtfhmepdbbhcncaaR
open Go
set_option linter.unusedVariables false
set_option linter.unusedSimpArgs false
section
variable {P : Program} {ops : Array Oper} {Q : Exit → Act → World → Prop} {md : Region.Mode}

/-- One operation, in a round of the widest fence. -/
theorem op_round {o : Oper} {a : Act} {w : World} {K : Act → World → Prop} (n l : Nat) (hd : ∀ c, o.op ≠ .defer c) (h : o.wp P a w K Q) : o.wpIn (Fence.wide.inRound l) n P a w K Q := by
  refine ⟨fun _ _ => trivial, ?_⟩
  rw [Oper.semAt_eq _ _ _ hd]
  have h' : o.upon P a K Q ((execOp a.eval o).run P w) := h
  generalize (execOp a.eval o).run P w = r at h' ⊢
  cases r with
  | ok nx w1 =>
    cases nx with
    | enter f args => exact ⟨fun e => (by cases e), callsIn_wide.2 h'⟩
    | row row args =>
      refine ⟨fun e => (by cases e), fun c cs _ => ?_⟩
      obtain ⟨v, w2, hr, hs⟩ := h' c cs
      exact ⟨v, w2, hr, stepsIn_wide.2 hs⟩
    | value v => exact h'
    | skip => exact h'
    | defer d => exact h'
    | _ => exact h'.elim
  | halt s w1 =>
    cases s <;> exact h'

theorem any_round (n l : Nat) (hd : ∀ (i : Nat) (o : Oper), ops[i]? = some o → ∀ c, o.op ≠ .defer c) (hQ : ¬ LetsOut Q) : ∀ (fuel : Nat) (listed : Array Bool) (a : Act) (w : World),
    wpAny P md ops Q fuel listed a w → wpAnyIn (Fence.wide.inRound l) n P md ops Q fuel listed a w
  | 0, _, _, _, h => h
  | fuel + 1, listed, a, w, h => by
    refine ⟨h.1, fun i hi => ?_⟩
    have h2 := h.2 i hi
    unfold wpOp at h2
    unfold wpOpIn
    cases ho : ops[i]? with
    | none => rw [ho] at h2; exact any_round n l hd hQ fuel _ _ _ h2
    | some o =>
      rw [ho] at h2
      simp only [] at h2 ⊢
      split
      · rename_i hw
        rw [if_pos hw] at h2
        rcases h2 with h3 | h3
        · exact op_round n l (hd i o ho) (Oper.wp_mono (fun a' w' h' => any_round n l hd hQ fuel _ a' w' h') h3)
        · exact absurd h3.2 hQ
      · rename_i hw
        rw [if_neg hw] at h2
        exact ⟨fun _ _ => trivial, any_round n l hd hQ fuel _ _ _ h2⟩

/-- A region in a round: what holds for it outside of one, holds in it. -/
theorem region_round {id : Nat} {a : Act} {w : World} (n l : Nat) (hm : P.follows .mixedOrders = true) (hd : ∀ (i : Nat) (o : Oper), ops[i]? = some o → ∀ c, o.op ≠ .defer c) (hQ : ¬ LetsOut Q)
    (h : wpAny P .any ops Q ops.size (Array.replicate ops.size false) a { w with drawn := w.drawn + 1 }) : (Code.region id ops true).wpIn (Fence.wide.inRound l) n P Q a w :=
  wpIn_region_any hm (any_round n l hd hQ _ _ _ _ h)

def noDefer (o : Oper) : Bool := match o.op with | .defer _ => false | _ => true
theorem noDefer_all {l : List Oper} (h : l.all noDefer = true) : ∀ (i : Nat) (o : Oper), l.toArray[i]? = some o → ∀ c, o.op ≠ .defer c := by
  intro i o ho c hc
  have := List.all_eq_true.1 h o (List.mem_of_getElem? (by simpa using ho))
  simp [noDefer, hc] at this

/-- The first operations only read, in whatever order; the others follow one by one: in a round. -/
theorem tail_round {id : Nat} {a : Act} {w : World} {l : List Oper} (n k : Nat) (q : Nat) (hm : P.follows .mixedOrders = true) (hdl : l.all noDefer = true) (hB : Region.lexTailB .any l.toArray q = true) (hQ : ¬ LetsOut Q)
    (h : wpStill P l.toArray w.drew (fun a' => wpList P l.toArray Q (l.drop q) a' w.drew) (l.take q) a) : (Code.region id l.toArray true).wpIn (Fence.wide.inRound k) n P Q a w := by
  refine region_round n k hm (noDefer_all hdl) hQ ?_
  simp only [Region.lexTailB, Bool.and_eq_true, decide_eq_true_eq] at hB
  obtain ⟨⟨⟨⟨b1, b2⟩, b3⟩, b4⟩, b5⟩ := hB
  have s0 : l.toArray.size = l.length := rfl
  have s1 : (l.take q).length = q := by simp; omega
  have s2 : (l.drop q).length = l.toArray.size - q := by simp
  have i0 : HeadInv .any l.toArray q (Array.replicate l.toArray.size false) := by
    refine ⟨by simp, fun j oj _ hl => ?_, fun t _ ht => ?_⟩
    · rw [getD_replicate_false] at hl; cases hl
    · exact getD_in (by simpa using ht) (getD_replicate_false _ _)
  have H1 := wpAnyL_lex (P := P) (md := .any) (g := l.toArray.size - q) b1 b3 b4 b2 (l.take q) 0 _ a (fun j hj => by rw [s1] at hj; simp [hj]) (by rw [s1, Nat.zero_add]) i0 (by rw [s1]; exact b5) h
  have H2 : ∀ listed a', (Region.seqB .any l.toArray (l.toArray.size - q) q listed = true ∧ wpList P l.toArray Q (l.drop q) a' w.drew) → wpAny P .any l.toArray Q (l.toArray.size - q) listed a' w.drew := fun listed a' hL => by
    have := wpAny_of_seq (P := P) (md := .any) (Q' := Q) (l.drop q) q listed a' w.drew (fun j => by simp [List.getElem?_drop]) (by rw [s2]; exact hL.1) hL.2
    rw [s2] at this
    exact this
  have H3 := wpAny_of_head H2 _ _ _ H1
  rw [s1, show q + (l.toArray.size - q) = l.toArray.size by omega] at H3
  exact H3

/-- All operations only read, but for callees that lay blocks: in a round. -/
theorem below_round {id : Nat} {a : Act} {w : World} {l : List Oper} (n k : Nat) (hm : P.follows .mixedOrders = true) (hdl : l.all noDefer = true) (hB : Region.lexB .any l.toArray = true) (hQ : ¬ LetsOut Q)
    (h : wpQuiet P l.toArray (fun w' => ∃ p : Regrown, w' = Go.Sort.grow (redrawn w p.d) p.os) (fun a' => ∀ w', (∃ p : Regrown, w' = Go.Sort.grow (redrawn w p.d) p.os) → Q .normal a' w') l a) : (Code.region id l.toArray true).wpIn (Fence.wide.inRound k) n P Q a w := by
  refine region_round n k hm (noDefer_all hdl) hQ ?_
  simp only [Region.lexB, Bool.and_eq_true] at hB
  refine wpAny_of_quiet (C := fun w' => ∃ p : Regrown, w' = Go.Sort.grow (redrawn w p.d) p.os) (Q := fun a' => ∀ w', (∃ p : Regrown, w' = Go.Sort.grow (redrawn w p.d) p.os) → Q .normal a' w') (fun _ w' hw' h => h w' hw') _ _ _ _ ⟨⟨w.drawn + 1, #[]⟩, by rw [Go.Sort.grow_empty]; rfl⟩ ?_
  have := wpAnyQ_lex (md := .any) hB.1 l 0 (Array.replicate l.toArray.size false) a (by simp) (by simpa using hB.2) h
  simpa using this
end
end Go.Proofs.YtfhmepdbbhcncaaR

namespace Go.Proofs.Ytfhmepdbbhcncaa.P
open Go.RowKit Go.Shelf Go.Proofs.YtfhmepdbbhcncaaW.PrintWords Go.Proofs.YtfhmepdbbhcncaaW.PrintLast Go.Proofs.YtfhmepdbbhcncaaW.PrintMore Go.Proofs.YtfhmepdbbhcncaaM Go.Proofs.YtfhmepdbbhcncaaR
set_option linter.unusedVariables false
set_option linter.unusedSimpArgs false

def encK (v : Int) : Value := .agg #[.int .i64 v]
theorem keyOK : KeyOK Try.prog 111 encK where
  chk := fun e k w => by kernel_rfl
  eq := fun a b w => by
    have h : (Op.equal 111 (encK a) (encK b)).run Try.prog w = .ok (a == b) w := by
      unfold encK Op.equal Op.maxDepth
      refine eqA_of Try.underlying111 (by kernel_rfl) ?_
      exact eqf_last (by rfl) (by go_simp; rfl) (by go_simp; rfl) (by go_simp)
    rw [h]
    congr 1
  bits := fun a => by simp [encK, Instr.sameBits]
  und := ⟨_, Try.underlying111, .inl (fun a b => rfl)⟩

/-- one move: what it makes of the arrivals -/
def bodyF (step : Int → S58 → Int × Bool) (may : S58 → Bool) (v : Int) (s : List Int × (Int → Option Int)) (x : Int × S58) : List Int × (Int → Option Int) :=
  if (step (s.1.getD v.toNat 0) x.2).2 = true ∧ may x.2 = true ∧ (step (s.1.getD v.toNat 0) x.2).1 < s.1.getD x.2.f1.toNat 0 then
    (s.1.set x.2.f1.toNat (step (s.1.getD v.toNat 0) x.2).1, fun k => if k = x.2.f1 then some x.1 else s.2 k) else s
/-- the search, vessel by vessel -/
def runL (step : Int → S58 → Int × Bool) (may : S58 → Bool) (l : List S58) : Nat → List Int → List Int × (Int → Option Int) → List Int × (Int → Option Int)
  | 0, _, s => s
  | k + 1, left, s =>
    if left = [] then s else
      let v := leastF (fun v => s.1.getD v.toNat 0) left
      if s.1.getD v.toNat 0 = 1048576 then s else runL step may l k (left.filter fun o => !(o == v)) ((outsTo v l l.length).foldl (bodyF step may v) s)
def come0 (sv st : Int) : List Int := (List.replicate 20 1048576).set sv.toNat st
def runC (step : Int → S58 → Int × Bool) (may : S58 → Bool) (n : Int) (l : List S58) (sv st : Int) : List Int × (Int → Option Int) :=
  runL step may l n.toNat ((List.range n.toNat).map fun (i : Nat) => (i : Int)) (come0 sv st, fun _ => none)

/-- Between the steps of run: the three boxes; nothing old has turned but block B. -/
structure RunW (w W : World) (B gs gm : Nat) (bm lm : Array Value) : Prop where
  x : Blk W w.heap.size 81 #[.pointer (some ⟨B, 0, none⟩)]
  s : Blk W (w.heap.size + 1) 86 #[.func (.func gs) #[] #[]]
  m : Blk W (w.heap.size + 1 + 1) 78 #[.func (.func gm) bm lm]
  g : w.grownBy W (some B)
  sz : w.heap.size + 3 ≤ W.heap.size
theorem RunW.kept {w W W' : World} {B gs gm : Nat} {bm lm : Array Value} {row : Option Nat} (h : RunW w W B gs gm bm lm) (hB : B < w.heap.size) (hg : W.grownBy W' row) (hrow : ∀ r, row = some r → r = B ∨ w.heap.size + 3 ≤ r) : RunW w W' B gs gm bm lm := by
  have ne : ∀ k, w.heap.size ≤ k → k < w.heap.size + 3 → some k ≠ row := fun k h1 h2 e => by rcases hrow k e.symm with h3 | h3 <;> omega
  refine ⟨h.x.kept hg (ne _ (by omega) (by omega)), h.s.kept hg (ne _ (by omega) (by omega)), h.m.kept hg (ne _ (by omega) (by omega)), ⟨hg.os.trans h.g.os, hg.tape.trans h.g.tape, hg.output.trans h.g.output, Nat.le_trans h.g.size hg.size, fun k hk hne => ?_⟩, Nat.le_trans h.sz hg.size⟩
  refine (hg.block k (Nat.lt_of_lt_of_le hk h.g.size) (fun e => ?_)).trans (h.g.block k hk hne)
  rcases hrow k e.symm with h3 | h3
  · exact hne (by rw [h3])
  · omega
theorem RunW.below {w W W' : World} {B gs gm : Nat} {bm lm : Array Value} (h : RunW w W B gs gm bm lm) (hB : B < w.heap.size) (hb : Below W.heap.size W W') : RunW w W' B gs gm bm lm :=
  h.kept hB (grown_of_below hb none) (fun r e => by cases e)
theorem RunW.alloc {w W : World} {B gs gm : Nat} {bm lm : Array Value} (h : RunW w W B gs gm bm lm) (hB : B < w.heap.size) (o : Obj) : RunW w (W.alloc o) B gs gm bm lm :=
  h.kept hB (World.grownBy_alloc W o none) (fun r e => by cases e)
theorem RunW.set {w W : World} {B gs gm : Nat} {bm lm : Array Value} (h : RunW w W B gs gm bm lm) (hB : B < w.heap.size) (j : Nat) (v : Value) : RunW w (W.setCell ⟨B, j, none⟩ v) B gs gm bm lm :=
  h.kept hB (grown_set W B j v) (fun r e => by cases e; exact .inl rfl)

/-- Between the rounds of run. -/
structure RunI (w W : World) (B gs gm : Nat) (bm lm : Array Value) (n : Int) (sl : Value) (sv st : Int) (M : Nat) (s : List Int × (Int → Option Int)) : Prop where
  S : SAt W B n sl sv st s.1 (.map (some M))
  Mp : ∃ N, MapAt W encK M N (fun k => (s.2 k).map (Value.int .i64))
  W : RunW w W B gs gm bm lm
  ge : w.heap.size + 3 ≤ M
theorem RunI.ltM {w W : World} {B gs gm : Nat} {bm lm : Array Value} {n : Int} {sl : Value} {sv st : Int} {M : Nat} {s : List Int × (Int → Option Int)} (h : RunI w W B gs gm bm lm n sl sv st M s) : M < W.heap.size := by
  obtain ⟨N, hN⟩ := h.Mp; exact hN.lt
theorem RunI.kept {w W W' : World} {B gs gm : Nat} {bm lm : Array Value} {n : Int} {sl : Value} {sv st : Int} {M : Nat} {s : List Int × (Int → Option Int)} {row : Option Nat} (h : RunI w W B gs gm bm lm n sl sv st M s) (hB : B < w.heap.size) (hg : W.grownBy W' row) (hrow : ∀ r, row = some r → M < r) : RunI w W' B gs gm bm lm n sl sv st M s := by
  obtain ⟨N, hN⟩ := h.Mp
  have hge := h.ge
  refine ⟨h.S.kept hg (fun e => by have := hrow _ e.symm; omega), ⟨N, hN.move (hg.block M hN.lt (fun e => by have := hrow _ e.symm; omega))⟩, h.W.kept hB hg (fun r e => .inr (by have := hrow r e; omega)), hge⟩
theorem RunI.below {w W W' : World} {B gs gm : Nat} {bm lm : Array Value} {n : Int} {sl : Value} {sv st : Int} {M : Nat} {s : List Int × (Int → Option Int)} (h : RunI w W B gs gm bm lm n sl sv st M s) (hB : B < w.heap.size) (hb : Below W.heap.size W W') : RunI w W' B gs gm bm lm n sl sv st M s :=
  h.kept hB (grown_of_below hb none) (fun r e => by cases e)

/-- What run leaves. -/
def RunPost (B : Nat) (n : Int) (s : Value) (sv st : Int) (w : World) (r : List Int × (Int → Option Int)) (e : Ending) (w' : World) : Prop :=
  ∃ M N, (∃ v, e = .returned v) ∧ SAt w' B n s sv st r.1 (.map (some M)) ∧ MapAt w' encK M N (fun k => (r.2 k).map (Value.int .i64)) ∧ w.grownBy w' (some B) ∧ w.heap.size ≤ M

theorem run_leaves {w : World} {B gs gm : Nat} {bm lm : Array Value} {n : Int} {sl : Value} {sv st : Int} {M : Nat} {s : List Int × (Int → Option Int)} (hB : B < w.heap.size) (tmps : Array Value) : ∀ (Ds : List Nat) (W : World), Ds.Nodup → (∀ D ∈ Ds, M < D ∧ W.heap[D]? = some (.deferred (some []))) → RunI w W B gs gm bm lm n sl sv st M s →
    LeavesInM Fence.wide 4 Try.prog Try.f61 tmps (RunPost B n sl sv st w s) (Ds.map fun D => { target := .collected D, args := #[] }) .returning W
  | [], W, _, _, h => by
    obtain ⟨N, hN⟩ := h.Mp
    exact ⟨_, results_none rfl _ _ _, M, N, ⟨_, rfl⟩, h.S, hN, h.W.g, by have := h.ge; omega⟩
  | D :: Ds, W, hnd, hD, h => by
    have hD0 := hD D (by simp)
    rw [List.nodup_cons] at hnd
    refine ⟨by simp, .inl ⟨D, _, rfl, run_takeDeferred hD0.2, run_leaves hB tmps Ds _ hnd.2 (fun E hE => ?_) (h.kept hB (grownBy_putObj' W D _) (fun r e => by cases e; exact hD0.1))⟩⟩
    have hE0 := hD E (by simp [hE])
    refine ⟨hE0.1, ((grownBy_putObj' W D (.deferred none)).block E (Array.getElem?_eq_some_iff.1 hE0.2).1 (fun e => ?_)).trans hE0.2⟩
    injection e with e
    exact hnd.1 (e ▸ hE)

/-- Within a round of run: between two moves out of a vessel. -/
structure RunJ (w W5 W : World) (B gs gm : Nat) (bm lm : Array Value) (n : Int) (sl : Value) (sv st : Int) (M bL capL bV : Nat) (ys : List Int) (v : Int) (Ds : List Nat) (s : List Int × (Int → Option Int)) : Prop where
  I : RunI w W B gs gm bm lm n sl sv st M s
  row : RowC W bL 3 capL ys
  ds : ∀ D ∈ Ds, M < D ∧ D < W5.heap.size ∧ W.heap[D]? = some (.deferred (some []))
  bv : Blk W bV 3 #[.int .i64 v]
  sz : W5.heap.size ≤ W.heap.size
theorem RunJ.kept {w W5 W W' : World} {B gs gm : Nat} {bm lm : Array Value} {n : Int} {sl : Value} {sv st : Int} {M bL capL bV : Nat} {ys : List Int} {v : Int} {Ds : List Nat} {s : List Int × (Int → Option Int)} {row : Option Nat}
    (h : RunJ w W5 W B gs gm bm lm n sl sv st M bL capL bV ys v Ds s) (hB : B < w.heap.size) (hM : M < W5.heap.size) (hL : bL < W5.heap.size) (hV : bV < W5.heap.size) (hg : W.grownBy W' row) (hrow : ∀ r, row = some r → W5.heap.size ≤ r) : RunJ w W5 W' B gs gm bm lm n sl sv st M bL capL bV ys v Ds s :=
  ⟨h.I.kept hB hg (fun r e => by have := hrow r e; omega), h.row.kept hg (fun e => by have := hrow _ e.symm; omega), fun D hD => ⟨(h.ds D hD).1, (h.ds D hD).2.1, (hg.block D (Array.getElem?_eq_some_iff.1 (h.ds D hD).2.2).1 (fun e => by have := hrow _ e.symm; have := (h.ds D hD).2.1; omega)).trans (h.ds D hD).2.2⟩,
   h.bv.kept hg (fun e => by have := hrow _ e.symm; omega), Nat.le_trans h.sz hg.size⟩

theorem RunJ.come {w W5 W : World} {B gs gm : Nat} {bm lm : Array Value} {n : Int} {sl : Value} {sv st : Int} {M bL capL bV : Nat} {ys : List Int} {v : Int} {Ds : List Nat} {s : List Int × (Int → Option Int)}
    (h : RunJ w W5 W B gs gm bm lm n sl sv st M bL capL bV ys v Ds s) (hB : B < w.heap.size) (hL : M < bL) (hV : M < bV) (j : Nat) (hj : j < 20) (t : Int) : RunJ w W5 (W.setCell ⟨B, 4 + j, none⟩ (.int .i64 t)) B gs gm bm lm n sl sv st M bL capL bV ys v Ds (s.1.set j t, s.2) := by
  have hg := grown_set W B (4 + j) (.int .i64 t)
  have hge := h.I.ge
  obtain ⟨N, hN⟩ := h.I.Mp
  refine ⟨⟨h.I.S.setCome j hj t, ⟨N, hN.move (hg.block M hN.lt (by simp; omega))⟩, h.I.W.set hB _ _, hge⟩, h.row.kept hg (by simp; omega), fun D hD => ⟨(h.ds D hD).1, (h.ds D hD).2.1, (hg.block D (Array.getElem?_eq_some_iff.1 (h.ds D hD).2.2).1 (by have := (h.ds D hD).1; simp; omega)).trans (h.ds D hD).2.2⟩, h.bv.kept hg (by simp; omega), Nat.le_trans h.sz hg.size⟩
theorem RunJ.mapped {w W5 W W' : World} {B gs gm : Nat} {bm lm : Array Value} {n : Int} {sl : Value} {sv st : Int} {M bL capL bV N : Nat} {ys : List Int} {v : Int} {Ds : List Nat} {s : List Int × (Int → Option Int)} {f : Int → Option Value} {f2 : Int → Option Int}
    (h : RunJ w W5 W B gs gm bm lm n sl sv st M bL capL bV ys v Ds s) (hB : B < w.heap.size) (hL : M < bL) (hV : M < bV) (hg : W.grownBy W' (some M)) (hm : MapAt W' encK M N f) (hf : ∀ k, f k = (f2 k).map (Value.int .i64)) : RunJ w W5 W' B gs gm bm lm n sl sv st M bL capL bV ys v Ds (s.1, f2) := by
  have hge := h.I.ge
  refine ⟨⟨h.I.S.kept hg (by simp; omega), ⟨N, (funext hf : f = fun k => (f2 k).map (Value.int .i64)) ▸ hm⟩, h.I.W.kept hB hg (fun r e => .inr (by cases e; omega)), hge⟩, h.row.kept hg (by simp; omega), fun D hD => ⟨(h.ds D hD).1, (h.ds D hD).2.1, (hg.block D (Array.getElem?_eq_some_iff.1 (h.ds D hD).2.2).1 (by have := (h.ds D hD).1; simp; omega)).trans (h.ds D hD).2.2⟩, h.bv.kept hg (by simp; omega), Nat.le_trans h.sz hg.size⟩

theorem runL_never {step : Int → S58 → Int × Bool} {may : S58 → Bool} {l : List S58} {k : Nat} {s : List Int × (Int → Option Int)} (left : List Int) (h1 : left ≠ []) (v : Int) (hv : leastF (fun v => s.1.getD v.toNat 0) left = v) (h : s.1.getD v.toNat 0 = 1048576) : runL step may l (k + 1) left s = s := by
  rw [runL, if_neg h1]
  show (if s.1.getD (leastF (fun v => s.1.getD v.toNat 0) left).toNat 0 = 1048576 then s else _) = s
  rw [hv, if_pos h]
theorem runL_step {step : Int → S58 → Int × Bool} {may : S58 → Bool} {l : List S58} {k : Nat} {s : List Int × (Int → Option Int)} (left : List Int) (h1 : left ≠ []) (v : Int) (hv : leastF (fun v => s.1.getD v.toNat 0) left = v) (h : ¬ s.1.getD v.toNat 0 = 1048576) : runL step may l (k + 1) left s = runL step may l k (left.filter fun o => !(o == v)) ((outsTo v l l.length).foldl (bodyF step may v) s) := by
  rw [runL, if_neg h1]
  show (if s.1.getD (leastF (fun v => s.1.getD v.toNat 0) left).toNat 0 = 1048576 then s else runL step may l k (left.filter fun o => !(o == leastF (fun v => s.1.getD v.toNat 0) left)) ((outsTo (leastF (fun v => s.1.getD v.toNat 0) left) l l.length).foldl (bodyF step may (leastF (fun v => s.1.getD v.toNat 0) left)) s)) = _
  rw [hv, if_neg h]

theorem KpO.trans {B bx bv : Nat} {X Y Z : World} (h : KpO B bx bv X Y) (k : KpO B bx bv Y Z) : KpO B bx bv X Z := ⟨Nat.le_trans h.1 k.1, fun q hq => (k.2.1 q hq).trans (h.2.1 q hq), k.2.2.1.trans h.2.2.1, k.2.2.2.trans h.2.2.2⟩
def updT (T : Array Value) (x : OutMove) (b : Nat) : Array Value := (((T.setIfInBounds 77 (.int .i64 x.1.1)).setIfInBounds 78 (enc58 x.1.2)).setIfInBounds 10 (.int .i64 x.1.1)).setIfInBounds 11 (.pointer (some ⟨b, 0, none⟩))
def mvC (m : S58) : Array Value := #[.int .i64 m.f0, .int .i64 m.f1, .int .i64 m.f2.f0, .int .i64 m.f2.f1]

theorem rangeOut {g : Operand} {assign body : Code} {Q : Exit → Act → World → Prop} {a : Act} {w1 : World} {lb : Array Value} {B bx bv : Nat} {S : List OutMove → Prop} {N : Nat}
    (hg : a.eval g = .func (.func 84) #[] lb) (hseq : SeqStopsK Fence.wide 3 Try.prog 84 lb encO (KpO B bx bv) S (fun _ => True) N w1) (hbx : bx < w1.heap.size) (hbv : bv < w1.heap.size) (hB : B ≤ w1.heap.size)
    (I : List OutMove → World → Prop) (hI : OwnFrom w1.heap.size I) (h0 : I [] w1)
    (hassign : ∀ (l : Nat) (pre : List OutMove) (x : OutMove) (W : World) (K : Act → World → Prop), I pre W → (∀ a' W', KeepsFrom w1.heap.size W W' → KpO B bx bv W W' → I pre W' → (∃ b, w1.heap.size ≤ b ∧ Blk W' b 58 (mvC x.1.2) ∧ a' = { tmps := updT a.tmps x b, defers := [] }) → K a' W') →
      assign.wpIn (Fence.wide.inRound l) 2 Try.prog (Exit.then K (fun _ _ _ => False)) { tmps := (a.tmps.setIfInBounds 77 (.int .i64 x.1.1)).setIfInBounds 78 (enc58 x.1.2), defers := [] } W)
    (hbody : ∀ (l : Nat) (pre : List OutMove) (x : OutMove) (b : Nat) (W : World), I pre W → w1.heap.size ≤ b → Blk W b 58 (mvC x.1.2) → body.wpIn (Fence.wide.inRound l) 2 Try.prog (ownPostG w1.heap.size (KpO B bx bv) I (fun _ _ _ => False) (pre ++ [x]) W) { tmps := updT a.tmps x b, defers := [] } W)
    (hdone : ∀ (D : Nat) (xs : List OutMove) (W : World), w1.heap.size ≤ D → S xs → I xs W → W.heap[D]? = some (.deferred (some [])) → Q .normal { a with defers := { target := .collected D, args := #[] } :: a.defers } W) :
    (Code.rangeFunc g #[77, 78] assign body).wpIn Fence.wide 4 Try.prog Q a w1 := by
  refine wpIn_rangeFunc_ownH (gf := 84) rfl (by decide) hg trivial (enters_of Try.func84 (by kernel_rfl) rfl) hseq KpO.trans ?_ (Below.refl _ _) (fun _ => rfl) I (fun _ _ _ => False) hI (fun _ _ _ _ _ h _ _ => h) h0
    (fun x a' W => ∃ b, w1.heap.size ≤ b ∧ Blk W b 58 (mvC x.1.2) ∧ a' = { tmps := updT a.tmps x b, defers := [] }) ?_ ?_ ?_ hdone (fun _ _ _ _ _ _ h _ => h.elim)
  · intro W l o o' hl ho hc hw
    have hgb := grownBy_putObj' W l o'
    have hne : ∀ k, k < w1.heap.size → (W.putObj l o').heap[k]? = W.heap[k]? := fun k hk =>
      hgb.block k (by have := (Array.getElem?_eq_some_iff.1 ho).1; omega) (by simp; omega)
    exact ⟨hgb.size, fun k hk => hne k (by omega), hne _ hbx, hne _ hbv⟩
  · rintro x a' _ X Y row ⟨b, h1, h2, h3⟩ hg hr
    refine ⟨b, h1, h2.kept hg (fun e => ?_), h3⟩
    obtain ⟨_, o, ho, hc⟩ := hr b e.symm
    rw [show X.heap[b]? = _ from h2] at ho; cases ho; cases hc
  · intro l pre x W K hi hK
    have e : (#[77, 78].zip (encO x)).foldl (fun t (p, v) => t.setIfInBounds p v) a.tmps = (a.tmps.setIfInBounds 77 (.int .i64 x.1.1)).setIfInBounds 78 (enc58 x.1.2) := by simp [encO]
    rw [e]
    exact hassign l pre x W K hi hK
  · rintro l pre x a' W hl _ hi ⟨b, h1, h2, rfl⟩ _
    exact hbody l pre x b W hi h1 h2

attribute [local go_sem] Oper.semAt_some
set_option maxHeartbeats 4000000 in
set_option maxRecDepth 100000 in
theorem run_calls (B : Nat) (n : Int) (A : Option Addr) (c : Nat) (l : List S58) (sv st : Int) (cm0 : List Int) (m0 : Value) (gs gm : Nat) (bm lm : Array Value)
    (step : Int → S58 → Int × Bool) (may : S58 → Bool) (w0 w : World)
    (hS : SAt w B n (.slice A l.length c) sv st cm0 m0) (hn1 : 1 ≤ n) (hn2 : n ≤ 20) (hsv : 0 ≤ sv) (hsv2 : sv < n) (hl : ∀ m ∈ l, 0 ≤ m.f1 ∧ m.f1 < n)
    (hr : Kd.C k58 w0 A l.length l) (hw0 : w0.heap.size ≤ B) (hkeep : ∀ k, k < w0.heap.size → w.heap[k]? = w0.heap[k]?)
    (egs : ∀ args w, (callFunc gs args).run Try.prog w = .ok (.enter gs args) w) (egm : ∀ args w, (callFunc gm args).run Try.prog w = .ok (.enter gm args) w)
    (hstep : ∀ (W : World) (t : Int) (m : S58), Calls Try.prog gs #[.int .i64 t, enc58 m] W fun e w' => e = .returned (.tuple #[.int .i64 (step t m).1, .bool (step t m).2]) ∧ Below W.heap.size W w')
    (hmay : ∀ (W : World) (m : S58), w.grownBy W (some B) → Calls Try.prog gm (bm ++ #[enc58 m] ++ lm) W fun e w' => e = .returned (.bool (may m)) ∧ Below W.heap.size W w') :
    Calls Try.prog 61 #[.pointer (some ⟨B, 0, none⟩), .func (.func gs) #[] #[], .func (.func gm) bm lm] w (RunPost B n (.slice A l.length c) sv st w (runC step may n l sv st)) := by
  have HSTEP := Aside0.mk hstep
  have HMAY := Aside0.mk hmay
  have HR := Aside0.mk hr
  have HKEEP := Aside0.mk hkeep
  have HW0 := Aside0.mk hw0
  have HL := Aside0.mk hl
  have HS := Aside0.mk hS
  clear hstep hmay hr hkeep hw0 hl hS
  refine callsIn_wide.1 (callsIn_of_wp_marks (F := Fence.wide) (n := 4) Try.func61 rfl trivial ?_ rfl)
  refine wpIn_wide.2 ?_
  simp only [Try.ntmps61, List.size_toArray, List.length_cons, List.length_nil, Nat.reduceAdd, Nat.reduceSub, Array.replicate_succ, Array.replicate_zero, List.push_toArray, List.append_toArray, List.nil_append, List.cons_append]
  have hBlt := HS.out.lt
  obtain ⟨w1, hclr, HS1, HW1⟩ : ∃ w1, (∀ ty, (Builtin.clear_ #[28] ty #[.slice (some ⟨B, 4, none⟩) 20 20]).run Try.prog (((w.alloc (.cells #[.pointer (some ⟨B, 0, none⟩)] 81)).alloc (.cells #[.func (.func gs) #[] #[]] 86)).alloc (.cells #[.func (.func gm) bm lm] 78)) = .ok (.tuple #[]) w1) ∧
      (∃ cm, SAt w1 B n (.slice A l.length c) sv st cm m0) ∧ RunW w w1 B gs gm bm lm := by
    have HB1 := HS.out.alloc (.cells #[.pointer (some ⟨B, 0, none⟩)] 81) |>.alloc (.cells #[.func (.func gs) #[] #[]] 86) |>.alloc (.cells #[.func (.func gm) bm lm] 78)
    refine ⟨_, fun ty => Lib.run_clear_slice (P := Try.prog) _ 28 2 ty (.int .i64 0) Try.underlying28 (fun w => by kernel_rfl) rfl rfl B 4 20 20 (by omega) (fun j hj => by rw [HB1.cm j hj]; rfl) (fun j hj => HB1.fz _), ?_, ?_⟩
    · have : ∀ (k : Nat) (W : World) (cm : List Int) (v : Nat), v + k ≤ 20 → SAt W B n (.slice A l.length c) sv st cm m0 → ∃ cm', SAt (W.setCells B (4 + v) (List.replicate k (.int .i64 0))) B n (.slice A l.length c) sv st cm' m0 := by
        intro k
        induction k with
        | zero => exact fun W cm v _ h => ⟨cm, h⟩
        | succ k ih => exact fun W cm v hv h => ih _ _ (v + 1) (by omega) (h.setCome v (by omega) 0)
      exact this 20 _ _ 0 (by omega) HB1
    · have H3 : RunW w (((w.alloc (.cells #[.pointer (some ⟨B, 0, none⟩)] 81)).alloc (.cells #[.func (.func gs) #[] #[]] 86)).alloc (.cells #[.func (.func gm) bm lm] 78)) B gs gm bm lm := by
        have b1 := Blk.new w #[.pointer (some ⟨B, 0, none⟩)] 81
        have b2 := Blk.new (w.alloc (.cells #[.pointer (some ⟨B, 0, none⟩)] 81)) #[.func (.func gs) #[] #[]] 86
        have b3 := Blk.new ((w.alloc (.cells #[.pointer (some ⟨B, 0, none⟩)] 81)).alloc (.cells #[.func (.func gs) #[] #[]] 86)) #[.func (.func gm) bm lm] 78
        simp only [World.size_alloc] at b2 b3
        exact ⟨(b1.alloc _).alloc _, b2.alloc _, b3, ((World.grownBy_alloc w _ _).trans (World.grownBy_alloc _ _ _)).trans (World.grownBy_alloc _ _ _), by simp⟩
      have : ∀ (k : Nat) (W : World) (v : Nat), RunW w W B gs gm bm lm → RunW w (W.setCells B v (List.replicate k (.int .i64 0))) B gs gm bm lm := by
        intro k
        induction k with
        | zero => exact fun W v h => h
        | succ k ih => exact fun W v h => ih _ _ (h.set hBlt v _)
      exact this 20 _ 4 H3
  obtain ⟨cm1, HS1⟩ := HS1
  go_wp2_with fail
  go_loopg [18] 20 (fun kq v18 w' => ∃ (k : Nat) (cm : List Int), v18 = .int .i64 k ∧ Aside0 (k + kq = 20) ∧ Aside0 (SAt w' B n (.slice A l.length c) sv st cm m0) ∧ Aside0 (∀ j, j < k → cm.getD j 0 = 1048576) ∧ Aside0 (RunW w w' B gs gm bm lm))
  case atStart => exact ⟨0, cm1, rfl, ⟨by omega⟩, ⟨HS1⟩, ⟨fun j hj => absurd hj (by omega)⟩, ⟨HW1⟩⟩
  case round =>
    clear hclr HS1 HW1
    obtain ⟨k, cm, rfl, HN, HSR, HC, HWR⟩ := hrel
    have cx := HWR.out.x.cell 0
    have hx : wr.cell? ⟨w.heap.size, 0, none⟩ = some (.pointer (some ⟨B, 0, none⟩)) := cx
    clear cx
    cases gk with
    | succ k1 =>
      have hk : (k : Int) < 20 := by have := HN.out; omega
      have hck := HSR.out.cm k (by omega)
      have hfk := HSR.out.fz (4 + k)
      go_wp2
      go_roundg k1
      case rel => exact ⟨k + 1, _, by go_num, ⟨by have := HN.out; omega⟩, ⟨HSR.out.setCome k (by omega) 1048576⟩, ⟨fun j hj => by
        have hl2 := HSR.out.len
        by_cases e : j = k
        · subst e; rw [List.getD_eq_getElem?_getD, List.getElem?_set_self (by omega)]; rfl
        · have := HC.out j (by omega); simpa [List.getElem?_set, Ne.symm e] using this⟩, ⟨HWR.out.set hBlt _ _⟩⟩
      case measure => omega
    | zero =>
      have hk : k = 20 := by have := HN.out; omega
      have HCM : Aside0 (cm = List.replicate 20 1048576) := ⟨by
        have hl2 := HSR.out.len
        apply List.ext_getElem
        · simp [hl2]
        · intro j h1 h2
          have := HC.out j (by omega)
          rw [List.getElem_replicate]
          simpa [h1] using this⟩
      clear hk
      have hlt20 : decide ((k : Int) < 20) = false := by have := HN.out; simp; omega
      have hmm := @run_makeMap Try.prog
      have hlB : B < wr.heap.size := HSR.out.lt
      have HS2 := (HSR.out.setMap (.map (some wr.heap.size))).alloc (.map #[] 0)
      have HW2 := (HWR.out.set hBlt 24 (.map (some wr.heap.size))).alloc hBlt (.map #[] 0)
      have HM2 : MapAt ((wr.setCell ⟨B, 24, none⟩ (.map (some wr.heap.size))).alloc (.map #[] 0)) encK wr.heap.size 0 (fun _ => none) := by
        simpa using MapAt.made (wr.setCell ⟨B, 24, none⟩ (.map (some wr.heap.size))) encK
      have hcm := HSR.out.cmap
      have hfm := HSR.out.fz 24
      have hMge : w.heap.size + 3 ≤ wr.heap.size := HWR.out.sz
      go_upto_region 8 with (fail)
      generalize ((wr.setCell ⟨B, 24, none⟩ (.map (some wr.heap.size))).alloc (.map #[] 0)) = w2 at *
      generalize wr.heap.size = M at *
      clear hmm hcm hfm hx HSR HWR HC hlB
      obtain ⟨w3, e3⟩ : ∃ w3, ({ heap := w2.heap, tape := w2.tape, drawn := w2.drawn + 1, os := w2.os, output := w2.output } : World) = w3 := ⟨_, rfl⟩
      have g3 : w2.grownBy w3 none := by rw [← e3]; exact grown_of_below (below_dN (Below.refl _ _) 1) none
      have HS3 := HS2.kept g3 (by simp)
      have HW3 := HW2.kept hBlt g3 (fun r e => by cases e)
      have HM3 := HM2.move (w' := w3) (by rw [← e3])
      have hM3 : w.heap.size + 3 ≤ M := hMge
      clear HS2 HW2 HM2
      have q1 : w3.cell? ⟨w.heap.size, 0, none⟩ = some (.pointer (some ⟨B, 0, none⟩)) := HW3.x.cell 0
      have q2 := HS3.c2
      have q3 := HS3.c3
      have q4 := HS3.cm sv.toNat (by omega)
      have q5 := HS3.fz (4 + sv.toNat)
      have HR4 : Aside0 (RunI w (w3.setCell ⟨B, 4 + sv.toNat, none⟩ (.int .i64 st)) B gs gm bm lm n (.slice A l.length c) sv st M (come0 sv st, fun _ => none)) := ⟨by rw [HCM.out] at HS3; exact HS3.setCome sv.toNat (by omega) st, ⟨0, HM3.move ((grown_set w3 B (4 + sv.toNat) (.int .i64 st)).block _ HM3.lt (by simp; omega))⟩, HW3.set hBlt (4 + sv.toNat) (.int .i64 st), hM3⟩
      clear HS3 HW3 HM3 g3 hMge hM3
      refine wp_region_still_tail 14 (by kernel_rfl) (by kernel_rfl) ?_
      rw [e3]
      simp only [List.take_succ_cons, List.take_zero, List.drop_succ_cons, List.drop_zero]
      have hsv20 : sv < 20 := by omega
      repeat still_step
      refine wpStill_nil ?_
      clear e3
      go_upto_region 9 with (fail)
      generalize (w3.setCell ⟨B, 4 + sv.toNat, none⟩ (.int .i64 st)) = w4 at *
      clear q1 q2 q3 q4 q5
      have x1 : w4.cell? ⟨w.heap.size, 0, none⟩ = some (.pointer (some ⟨B, 0, none⟩)) := HR4.out.W.x.cell 0
      have x2 := HR4.out.S.c0
      go_wp2_with fail
      go_loopg [7, 50] n.toNat (fun kq v7 v50 w' => ∃ (k : Nat), v50 = .int .i64 k ∧ Aside0 (k + kq = n.toNat) ∧ Aside0 (Kd.R (Kd.int .i64) 3 w' w4.heap.size (fun _ => True) v7 ((List.range k).map (fun (i : Nat) => (i : Int)))) ∧ Aside0 (Below w4.heap.size w4 w'))
      case atStart => exact ⟨0, rfl, ⟨by omega⟩, ⟨Kd.R_nil _ _ _ _ _⟩, ⟨Below.refl _ _⟩⟩
      case round =>
        obtain ⟨k2, rfl, HN2, HL2, HB2⟩ := hrel
        cases gk with
        | succ k1 =>
          have hlt : (k2 : Int) < n := by have := HN2.out; omega
          have hszW := HB2.out.size
          go_wp2_with ((with_reducible refine gate_builtin (b := .append) (xs := #[.tmp 53, .tmp 55]) rfl ?_); at_builtin; refine Kd.R_append (Kd.int .i64) (w0 := w4) w4.heap.size rfl (.tmp 53) (.tmp 55) 27 3 (.int .i64 0) 8 rfl Try.underlying27 info3 rfl (by decide) (by omega) u7 ((List.range k2).map (fun (i : Nat) => (i : Int))) (k2 : Int) [.int .i64 k2] (fun _ => True) (fun _ => False) rfl rfl ?aP (fun _ hk => hk.elim) ?aF ?aO ?aB ?aS ?aL ?_; (case aP => exact rfl); (case aB => exact HB2.out); (case aF => exact (fun _ _ => trivial)); (case aO => exact HL2.out); (case aS => exact HB2.out.size); (case aL => simp only [List.length_map, List.length_range]; omega); intro v7 w24 ho hb hg hat; have HO7 := Aside0.mk ho; have HB7 := Aside0.mk hb; clear ho hb hg hat)
          go_roundg k1
          case rel => exact ⟨k2 + 1, by go_num, ⟨by have := HN2.out; omega⟩, ⟨by rw [List.range_succ, List.map_append]; exact HO7.out⟩, HB7⟩
          case measure => omega
        | zero =>
          have hlt : decide ((k2 : Int) < n) = false := by have := HN2.out; simp; omega
          have hk2 : k2 = n.toNat := by have := HN2.out; omega
          obtain ⟨bL, capL, rfl, hbL, hlenL, HRow⟩ := RowC.of_own (Kd.own_of_R HL2.out) (by simp; omega)
          have HI := Aside0.mk (HR4.out.below hBlt HB2.out)
          have HROW := Aside0.mk HRow
          have hMb : M < bL := Nat.lt_of_lt_of_le HR4.out.ltM hbL
          have hlen0 := Aside0.mk hlenL
          have hst0 : w4.heap.size ≤ wr.heap.size := HB2.out.size
          clear HL2 HB2 HR4 hbL hlenL HRow x1 x2 hst0
          go_wp2_with fail
          refine wp_loop_ghost_k (fun kq a W => ∃ (s : List Int × (Int → Option Int)) (left : List Int) (Ds : List Nat) (v9 v58 v59 v60 v61 v62 v63 v64 v65 v66 v67 v68 v69 v70 v71 v72 v73 v74 v75 v76 : Value), a = { tmps := #[Value.pointer (some { block := B, off := 0 }), Value.func (Fn.func gs) #[] #[], Value.func (Fn.func gm) bm lm, Value.pointer (some { block := w.heap.size, off := 0 }), Value.pointer (some { block := w.heap.size + 1, off := 0 }), Value.pointer (some { block := w.heap.size + 1 + 1, off := 0 }), u6, Value.slice (some { block := bL, off := 0 }) left.length capL, u8, v9, undef, undef, undef, undef, Value.pointer (some { block := B, off := 0 }), Value.pointer (some { block := B, off := 0 }), Value.pointer (some { block := B, off := 4 }), Value.slice (some { block := B, off := 4 }) 20 20, Value.int IntKind.i64 (k : Int), Value.bool false, u20, u21, u22, u23, u24, u25, u26, Value.pointer (some { block := B, off := 0 }), Value.map (some M), Value.pointer (some { block := B, off := 0 }), Value.pointer (some { block := B, off := 24 }), Value.pointer (some { block := B, off := 0 }), Value.pointer (some { block := B, off := 0 }), Value.pointer (some { block := B, off := 0 }), Value.pointer (some { block := B, off := 2 }), Value.pointer (some { block := B, off := 2 }), Value.int IntKind.i64 sv, Value.pointer (some { block := B, off := 0 }), Value.pointer (some { block := B, off := 0 }), Value.pointer (some { block := B, off := 2 }), Value.pointer (some { block := B, off := 3 }), Value.int IntKind.i64 st, Value.pointer (some { block := B, off := 0 }), Value.pointer (some { block := B, off := 4 }), Value.pointer (some { block := B, off := 4 + sv.toNat }), Value.pointer (some { block := B, off := 0 }), Value.pointer (some { block := B, off := 0 }), Value.pointer (some { block := B, off := 0 }), Value.pointer (some { block := B, off := 0 }), Value.int IntKind.i64 n, Value.int IntKind.i64 (max n 0), Value.bool (decide (max n 0 < n)), u52, u53, u54, u55, u56, u57, v58, v59, v60, v61, v62, v63, v64, v65, v66, v67, v68, v69, v70, v71, v72, v73, v74, v75, v76, undef, undef, undef, undef, undef, undef, undef, undef, undef, undef, undef, undef, undef, undef, undef, undef, undef, undef, undef, undef, undef, undef, undef, undef, undef, undef, undef, undef, undef, undef, undef, undef, undef, undef, undef, undef, undef, undef, undef, undef, undef, undef, undef, undef, undef, undef], defers := Ds.map (fun D => { target := .collected D, args := #[] }) } ∧
              Aside0 (RunI w W B gs gm bm lm n (.slice A l.length c) sv st M s) ∧ Aside0 (RowC W bL 3 capL left) ∧ Aside0 (Ds.Nodup ∧ ∀ D ∈ Ds, M < D ∧ W.heap[D]? = some (.deferred (some []))) ∧ Aside0 (∀ v ∈ left, 0 ≤ v ∧ v < n) ∧ Aside0 (runL step may l kq left s = runC step may n l sv st) ∧ Aside0 (left.length ≤ kq)) n.toNat ?_ ?_
          · refine ⟨_, (List.range k2).map (fun (i : Nat) => (i : Int)), [], undef, undef, undef, undef, undef, undef, undef, undef, undef, undef, undef, undef, undef, undef, undef, undef, undef, undef, undef, undef, ?_, HI, HROW, ⟨by simp⟩, ⟨fun v hv => by simp at hv; omega⟩, ⟨by rw [hk2]; rfl⟩, ⟨by simp; omega⟩⟩
            simp only [List.length_map, List.length_range, hk2, List.map_nil]
          · rintro kq _ WR ⟨s, left, Ds, v9, v58, v59, v60, v61, v62, v63, v64, v65, v66, v67, v68, v69, v70, v71, v72, v73, v74, v75, v76, rfl, HIR, HRR, HDR, HVR, HTR, HKR⟩ J K hJ hK
            cases left with
            | nil =>
              go_wp2_with fail
              exact run_leaves hBlt _ Ds WR HDR.out.1 HDR.out.2 (by have h := HTR.out; have e : runL step may l kq [] s = s := (by cases kq <;> simp [runL]); rw [e] at h; rw [← h]; exact HIR.out)
            | cons x xs =>
              have hx1 : WR.cell? ⟨w.heap.size, 0, none⟩ = some (.pointer (some ⟨B, 0, none⟩)) := HIR.out.W.x.cell 0
              have hl1 : decide ((xs.length : Int) + 1 > 0) = true := decide_eq_true (by omega)
              have hl2 : decide (((xs.length + 1 : Nat) : Int) > 0) = true := by simp
              have HLEAST := Lib.hid (least76 77 #[.pointer (some ⟨w.heap.size, 0, none⟩)] (fun v => s.1.getD v.toNat 0) (some ⟨bL, 0, none⟩) capL x xs WR (enters_of Try.func77 (by kernel_rfl) rfl) HRR.out.reads HRR.out.le
                (fun W y hy hb => come_call W w.heap.size B n (.slice A l.length c) sv st s.1 (.map (some M)) y (HVR.out y hy).1 (by have := (HVR.out y hy).2; omega) ((HIR.out.below hBlt hb).W.x.cell 0) (HIR.out.below hBlt hb).S))
              obtain ⟨v, hvl⟩ : ∃ v, leastF (fun v => s.1.getD v.toNat 0) (x :: xs) = v := ⟨_, rfl⟩
              rw [hvl] at HLEAST
              have hvm : v ∈ x :: xs := by rw [← hvl]; exact leastF_mem _ xs x
              have hv0 := (HVR.out v hvm).1
              have hvn := (HVR.out v hvm).2
              have hv20 : v < 20 := by omega
              have HVL := Lib.hid hvl
              have HVM := Lib.hid hvm
              clear hvl hvm
              go_upto_region 17 with (go_at_call 76; refine (HLEAST.out).mono ?_; rintro e W2 ⟨rfl, hb2⟩; have HB2 := Aside0.mk hb2; clear hb2)
              have HI2 := HIR.out.below hBlt HB2.out
              have HR2 := HRR.out.below HB2.out HRR.out.lt
              have HD2 := Aside0.mk (show ∀ D ∈ Ds, M < D ∧ D < W2.heap.size ∧ W2.heap[D]? = some (.deferred (some [])) from fun D hD => by
                have h1 := HDR.out.2 D hD
                have h2 := (Array.getElem?_eq_some_iff.1 h1.2).1
                exact ⟨h1.1, Nat.lt_of_lt_of_le h2 HB2.out.size, (HB2.out.block D h2).trans h1.2⟩)
              have HND := Aside0.mk HDR.out.1
              clear HLEAST HIR HRR HDR HB2 hx1
              have HI3 := Aside0.mk (HI2.kept hBlt (World.grownBy_alloc W2 (.cells #[.int .i64 v] 3) none) (fun r e => by cases e))
              have HR3 := Aside0.mk (HR2.kept (World.grownBy_alloc W2 (.cells #[.int .i64 v] 3) none) (by simp))
              have HD3 := Aside0.mk (show ∀ D ∈ Ds, M < D ∧ D < (W2.alloc (.cells #[.int .i64 v] 3)).heap.size ∧ (W2.alloc (.cells #[.int .i64 v] 3)).heap[D]? = some (.deferred (some [])) from fun D hD => by
                have h1 := HD2.out D hD
                exact ⟨h1.1, by simp; omega, ((World.grownBy_alloc W2 (.cells #[.int .i64 v] 3) none).block D h1.2.1 (by simp)).trans h1.2.2⟩)
              have HV3 := Aside0.mk (Blk.new W2 #[.int .i64 v] 3)
              have hMV : M < W2.heap.size := HI2.ltM
              have hLV : bL < W2.heap.size := HR2.lt
              have hszV : W2.heap.size < (W2.alloc (.cells #[.int .i64 v] 3)).heap.size := by simp
              generalize W2.alloc (.cells #[.int .i64 v] 3) = W3 at *
              generalize W2.heap.size = bV at *
              clear HI2 HR2 HD2
              have hx3 : W3.cell? ⟨w.heap.size, 0, none⟩ = some (.pointer (some ⟨B, 0, none⟩)) := HI3.out.W.x.cell 0
              have hv3 : W3.cell? ⟨bV, 0, none⟩ = some (.int .i64 v) := HV3.out.cell 0
              have hc3 := HI3.out.S.cm v.toNat (by omega)
              obtain ⟨k1, rfl⟩ : ∃ k1, kq = k1 + 1 := ⟨kq - 1, by have := HKR.out; simp at this; omega⟩
              obtain ⟨cv, hcv⟩ : ∃ cv, s.1.getD v.toNat 0 = cv := ⟨_, rfl⟩
              rw [hcv] at hc3
              have HCV := Lib.hid hcv
              clear hcv
              by_cases hnev : cv = 1048576
              · have hq : (cv == 1048576) = true := by simp [hnev]
                have HNEV := Lib.hid hnev
                clear hnev
                go_quiet (fail)
                go_wp2_with fail
                refine run_leaves (gs := gs) (gm := gm) (bm := bm) (lm := lm) (M := M) hBlt _ Ds _ HND.out (fun D hD => ⟨(HD3.out D hD).1, (HD3.out D hD).2.2⟩) ?_
                have e := HTR.out
                rw [runL_never (x :: xs) (by simp) v HVL.out (by rw [HCV.out]; exact HNEV.out)] at e
                rw [← e]
                exact HI3.out.kept hBlt (grown_of_below (below_dN (Below.refl _ _) _) none) (fun r e => by cases e)
              · have hq : (cv == 1048576) = false := by simp [hnev]
                have HT4 := Lib.hid (HTR.out.symm.trans (runL_step (x :: xs) (by simp) v HVL.out (by rw [HCV.out]; exact hnev)))
                clear hnev
                go_quiet (fail)
                have g4 : W3.grownBy (W3.drewN nq) none := grown_of_below (below_dN (Below.refl _ _) _) none
                have HI4 := HI3.out.kept hBlt g4 (fun r e => by cases e)
                have HR4 := HR3.out.kept g4 (by simp)
                have HD4 := Aside0.mk (show ∀ D ∈ Ds, M < D ∧ D < (W3.drewN nq).heap.size ∧ (W3.drewN nq).heap[D]? = some (.deferred (some [])) from HD3.out)
                have HV4 := HV3.out.kept g4 (by simp)
                have hsz4 : bV < (W3.drewN nq).heap.size := hszV
                clear g4 hszV HV3 HD3 HR3 HI3 hx3 hv3 hc3
                go_upto_region 18 with (fail)
                generalize W3.drewN nq = W4 at *
                have HDF := Lib.hid (DeleteFunc78 79 #[.pointer (some ⟨bV, 0, none⟩)] (fun x => x == v) bL capL (x :: xs) W4 (enters_of Try.func79 (by kernel_rfl) rfl) HR4
                  (fun W y hg => same_call W bV v y ((HV4.kept hg (by simp; omega)).cell 0)))
                have HI4 := Lib.hid HI4
                have HV4 := Lib.hid HV4
                have hRlt : bL < W4.heap.size := HR4.lt
                have hneD : ∀ D ∈ Ds, D ≠ bL := fun D hD e => by
                  have h1 := (HD4.out D hD).2.2
                  obtain ⟨cur, hb, _⟩ := HR4.ex
                  rw [e, show W4.heap[bL]? = _ from hb] at h1
                  cases h1
                clear HR4
                go_upto_region 19 with (go_at_call 78; refine (HDF.out).mono ?_; rintro e W5 ⟨ys, hys, rfl, hr5, hg5⟩; have HR5 := Lib.hid hr5; have HYS := Lib.hid hys; have HG5 := Lib.hid hg5; clear hr5 hys hg5)
                have HI5 := HI4.out.kept hBlt HG5.out (fun r e => by cases e; exact hMb)
                have HV5 := HV4.out.kept HG5.out (by simp; omega)
                have HD5 := Aside0.mk (show ∀ D ∈ Ds, M < D ∧ D < W5.heap.size ∧ W5.heap[D]? = some (.deferred (some [])) from fun D hD => by
                  have h1 := HD4.out D hD
                  refine ⟨h1.1, Nat.lt_of_lt_of_le h1.2.1 HG5.out.size, (HG5.out.block D h1.2.1 (fun e => ?_)).trans h1.2.2⟩
                  injection e with e
                  exact hneD D hD e)
                have hgeM : w.heap.size + 3 ≤ M := HI5.ge
                have hw0B := HW0.out
                have hL5 : bL < W5.heap.size := HR5.out.lt
                have hM5 : M < W5.heap.size := HI5.ltM
                have hV5 : bV < W5.heap.size := HV5.lt
                have hx5 : W5.cell? ⟨w.heap.size, 0, none⟩ = some (.pointer (some ⟨B, 0, none⟩)) := HI5.W.x.cell 0
                have hv5 : W5.cell? ⟨bV, 0, none⟩ = some (.int .i64 v) := HV5.cell 0
                have g6 : W5.grownBy ((W5.alloc (.cells #[.pointer (some ⟨B, 0, none⟩)] 81)).alloc (.cells #[.int .i64 v] 3)) none := (World.grownBy_alloc _ _ none).trans (World.grownBy_alloc _ _ none)
                have hsz6 : ((W5.alloc (.cells #[.pointer (some ⟨B, 0, none⟩)] 81)).alloc (.cells #[.int .i64 v] 3)).heap.size = W5.heap.size + 2 := by simp
                have HJ6 := Aside0.mk (show RunJ w ((W5.alloc (.cells #[.pointer (some ⟨B, 0, none⟩)] 81)).alloc (.cells #[.int .i64 v] 3)) ((W5.alloc (.cells #[.pointer (some ⟨B, 0, none⟩)] 81)).alloc (.cells #[.int .i64 v] 3)) B gs gm bm lm n (.slice A l.length c) sv st M bL capL bV ys v Ds s from
                  ⟨HI5.kept hBlt g6 (fun r e => by cases e), HR5.out.kept g6 (by simp), fun D hD => ⟨(HD5.out D hD).1, by have := (HD5.out D hD).2.1; omega, (g6.block D (HD5.out D hD).2.1 (by simp)).trans (HD5.out D hD).2.2⟩, HV5.kept g6 (by simp), Nat.le_refl _⟩)
                have HX6 := Aside0.mk ((Blk.new W5 #[.pointer (some ⟨B, 0, none⟩)] 81).alloc (.cells #[.int .i64 v] 3))
                have HY6 := Aside0.mk (Blk.new (W5.alloc (.cells #[.pointer (some ⟨B, 0, none⟩)] 81)) #[.int .i64 v] 3)
                simp only [World.size_alloc] at HY6
                clear HI5 HD5 HV5 g6
                have hcall : Calls Try.prog 80 #[.pointer (some ⟨B, 0, none⟩), .int .i64 v] W5 fun e w' => e = .returned (.func (.func 84) #[] #[.pointer (some ⟨W5.heap.size, 0, none⟩), .pointer (some ⟨W5.heap.size + 1, 0, none⟩)]) ∧ w' = (W5.alloc (.cells #[.pointer (some ⟨B, 0, none⟩)] 81)).alloc (.cells #[.int .i64 v] 3) := out_call W5 ⟨B, 0, none⟩ v
                generalize hW6 : (W5.alloc (.cells #[.pointer (some ⟨B, 0, none⟩)] 81)).alloc (.cells #[.int .i64 v] 3) = W6 at *
                have HCALL := Lib.hid hcall
                clear hcall hW6
                go_wp2_with (go_at_call 80; refine (HCALL.out).mono ?_; rintro e w' ⟨rfl, rfl⟩)
                refine wpIn_wide.1 (rangeOut rfl (out_stops A c l (fun m hm => ⟨(HL.out m hm).1, by have := (HL.out m hm).2; omega⟩) v w0.heap.size B W5.heap.size (W5.heap.size + 1) w0 w' rfl (by have := HW0.out; omega) HR.out
                  (fun k hk => (HJ6.out.I.W.g.block k (by have := HW0.out; omega) (by have := HW0.out; simp; omega)).trans (HKEEP.out k hk)) HX6.out HY6.out HJ6.out.I.S.c1) (by omega) (by omega) (by have := HW0.out; omega)
                  (fun (pre : List OutMove) W => RunJ w w' W B gs gm bm lm n (.slice A l.length c) sv st M bL capL bV ys v Ds ((pre.map (fun (x : OutMove) => x.1)).foldl (bodyF step may v) s)) ?jown ?jinit ?jassign ?jbody ?jdone)
                case jown =>
                  intro pre X Y row h hg hr
                  exact h.kept hBlt (by omega) (by omega) (by omega) hg (fun r e => (hr r e).1)
                case jinit => exact HJ6.out
                case jassign =>
                  rintro ll pre ⟨⟨i, ⟨f, tt, ⟨lo, hi⟩⟩⟩, hx⟩ W K' hi' hK'
                  have e58 : enc58 ⟨f, tt, ⟨lo, hi⟩⟩ = .agg #[.int .i64 f, .int .i64 tt, .int .i64 lo, .int .i64 hi] := rfl
                  have HI' := Lib.hid hi'
                  clear hi'
                  simp only [e58, List.setIfInBounds_toArray, List.set_cons_zero, List.set_cons_succ]
                  gi_wp2
                  refine hK' _ _ ((KeepsOthers.alloc _ _).from _) ?_ ?_ ⟨W.heap.size, HI'.out.sz, Blk.new W _ 58, rfl⟩
                  · have g7 := World.grownBy_alloc W (.cells #[.int .i64 f, .int .i64 tt, .int .i64 lo, .int .i64 hi] 58) none
                    have := HI'.out.sz
                    exact ⟨g7.size, fun q hq => g7.block q (by omega) (by simp), g7.block _ (by omega) (by simp), g7.block _ (by omega) (by simp)⟩
                  · exact HI'.out.kept hBlt (by omega) (by omega) (by omega) (World.grownBy_alloc W _ none) (fun r e => by cases e)
                case jbody =>
                  rintro ll pre ⟨⟨i, m⟩, hx⟩ b W hi' hb hbk
                  rename_i K5 wr0 J1 K4 a5 a4 K3 a3 K2 J0 K1 a2 a1 K0 a0 h0 HI4x HV4x
                  clear a0 a1 a2 a3 a4 a5 hK hJ HDF HD4 HT4 HTR HKR HI4x HV4x HND HVR HVL HVM HI HROW HN2 HN HCM hlt hlt20 hl1 hl2 hlen0 h0 hq HCV HR5 HYS HG5 hx5 hv5 HX6 HY6 HCALL HS HR HKEEP HL HW0
                  clear K0 K1 K2 K3 K4 K5 J0 J1 K J
                  have hM6 : M < w'.heap.size := by omega
                  have hL6 : bL < w'.heap.size := by omega
                  have hV6 : bV < w'.heap.size := by omega
                  have hB6 : w0.heap.size ≤ w'.heap.size := by omega
                  have h56 : W5.heap.size < w'.heap.size := by omega
                  have h57 : W5.heap.size + 1 < w'.heap.size := by omega
                  clear hsz6
                  simp only [updT, List.setIfInBounds_toArray, List.set_cons_zero, List.set_cons_succ]
                  obtain ⟨s', hs'⟩ : ∃ s', (pre.map (fun (x : OutMove) => x.1)).foldl (bodyF step may v) s = s' := ⟨_, rfl⟩
                  have HSF := Aside0.mk (show ((pre ++ [(⟨(i, m), hx⟩ : OutMove)]).map (fun (x : OutMove) => x.1)).foldl (bodyF step may v) s = bodyF step may v s' (i, m) by rw [List.map_append, List.foldl_append, hs']; rfl)
                  have HIN := Aside0.mk (hs' ▸ hi')
                  clear hi' hs'
                  have HKN := Aside0.mk (show ∀ W', ownPostG w'.heap.size (KpO w0.heap.size W5.heap.size (W5.heap.size + 1)) (fun (pre : List OutMove) W => RunJ w w' W B gs gm bm lm n (.slice A l.length c) sv st M bL capL bV ys v Ds ((pre.map (fun (x : OutMove) => x.1)).foldl (bodyF step may v) s)) (fun _ _ _ => False) (pre ++ [⟨(i, m), hx⟩]) W .normal { tmps := #[], defers := [] } W' = (KeepsFrom w'.heap.size W W' ∧ KpO w0.heap.size W5.heap.size (W5.heap.size + 1) W W' ∧ RunJ w w' W' B gs gm bm lm n (.slice A l.length c) sv st M bL capL bV ys v Ds (bodyF step may v s' (i, m))) from fun W' => by rw [ownPostG, HSF.out])
                  have cs : W.cell? ⟨w.heap.size + 1, 0, none⟩ = some (.func (.func gs) #[] #[]) := HIN.out.I.W.s.cell 0
                  have cx : W.cell? ⟨w.heap.size, 0, none⟩ = some (.pointer (some ⟨B, 0, none⟩)) := HIN.out.I.W.x.cell 0
                  have cv9 : W.cell? ⟨bV, 0, none⟩ = some (.int .i64 v) := HIN.out.bv.cell 0
                  have ccm := HIN.out.I.S.cm v.toNat (by omega)
                  have cm0 : W.cell? ⟨b, 0, none⟩ = some (.int .i64 m.f0) := hbk.cell 0
                  have cm1' : W.cell? ⟨b, 1, none⟩ = some (.int .i64 m.f1) := hbk.cell 1
                  have cm2 : W.cell? ⟨b, 2, none⟩ = some (.int .i64 m.f2.f0) := hbk.cell 2
                  have cm3 : W.cell? ⟨b, 3, none⟩ = some (.int .i64 m.f2.f1) := hbk.cell 3
                  obtain ⟨cw, hcw⟩ : ∃ cw, s'.1.getD v.toNat 0 = cw := ⟨_, rfl⟩
                  rw [hcw] at ccm
                  have HCW := Lib.hid hcw
                  clear hcw
                  have e58 : enc58 m = .agg #[.int .i64 m.f0, .int .i64 m.f1, .int .i64 m.f2.f0, .int .i64 m.f2.f1] := rfl
                  obtain ⟨⟨t1, ok1⟩, hst⟩ : ∃ r, step cw m = r := ⟨_, rfl⟩
                  have HCS := Lib.hid (fun (X : World) => HSTEP.out X cw m)
                  rw [hst, e58] at HCS
                  have HST := Lib.hid hst
                  clear hst
                  gi_wp2_with fail
                  have gs1 := cell_regrown cs
                  have gx := cell_regrown cx
                  have gv := cell_regrown cv9
                  have gc := cell_regrown ccm
                  have g0 := cell_regrown cm0
                  have g1 := cell_regrown cm1'
                  have g2 := cell_regrown cm2
                  have g3 := cell_regrown cm3
                  refine below_round 2 ll (by kernel_rfl) (by kernel_rfl) (by kernel_rfl) (by rintro ⟨_, _, h⟩; exact h) ?_
                  repeat (go_big_quiet_step (first | (go_at_fn gs; exact Calls.regrown_of (HCS.out _))))
                  refine wpQuiet_nil ?_
                  intro _ hw'
                  obtain ⟨⟨dq, osq⟩, hw''⟩ := hw'
                  subst hw''
                  clear gs1 gx gv gc g0 g1 g2 g3 cs cx cv9 ccm cm0 cm1' cm2 cm3
                  have HB2 := Aside0.mk (below_regrown W dq osq)
                  have HJ2 := HIN.out.kept hBlt (by omega) (by omega) (by omega) (grown_of_below HB2.out none) (fun r e => by cases e)
                  have HK2 := HB2.out
                  have hbk2 := hbk.below HB2.out hbk.lt
                  gi_upto_region 23 with (fail)
                  generalize «Sort».grow (redrawn W dq) osq = W2 at *
                  clear HK2
                  have cx : W2.cell? ⟨w.heap.size, 0, none⟩ = some (.pointer (some ⟨B, 0, none⟩)) := HJ2.I.W.x.cell 0
                  have cmy : W2.cell? ⟨w.heap.size + 1 + 1, 0, none⟩ = some (.func (.func gm) bm lm) := HJ2.I.W.m.cell 0
                  have cm0 : W2.cell? ⟨b, 0, none⟩ = some (.int .i64 m.f0) := hbk2.cell 0
                  have cm1' : W2.cell? ⟨b, 1, none⟩ = some (.int .i64 m.f1) := hbk2.cell 1
                  have cm2 : W2.cell? ⟨b, 2, none⟩ = some (.int .i64 m.f2.f0) := hbk2.cell 2
                  have cm3 : W2.cell? ⟨b, 3, none⟩ = some (.int .i64 m.f2.f1) := hbk2.cell 3
                  have hx0 : 0 ≤ m.f1 := hx.1
                  have hx20 : m.f1 < 20 := hx.2
                  have ccm := HJ2.I.S.cm m.f1.toNat (by omega)
                  obtain ⟨ct, hct⟩ : ∃ ct, s'.1.getD m.f1.toNat 0 = ct := ⟨_, rfl⟩
                  rw [hct] at ccm
                  have HCT := Lib.hid hct
                  have HJ2 := Aside0.mk HJ2
                  have HBK := Aside0.mk hbk2
                  clear hct hbk hbk2 HCS
                  have HBF := Lib.hid (show bodyF step may v s' (i, m) = if ok1 = true ∧ may m = true ∧ t1 < ct then (s'.1.set m.f1.toNat t1, fun k => if k = m.f1 then some i else s'.2 k) else s' by
                    unfold bodyF
                    simp only [HCW.out, HST.out, HCT.out])
                  have HKO : ∀ W3, Below W2.heap.size W2 W3 → bodyF step may v s' (i, m) = s' → ownPostG w'.heap.size (KpO w0.heap.size W5.heap.size (W5.heap.size + 1)) (fun (pre : List OutMove) W => RunJ w w' W B gs gm bm lm n (.slice A l.length c) sv st M bL capL bV ys v Ds ((pre.map (fun (x : OutMove) => x.1)).foldl (bodyF step may v) s)) (fun _ _ _ => False) (pre ++ [⟨(i, m), hx⟩]) W .normal { tmps := #[], defers := [] } W3 := fun W3 h3 he => by
                    have hB3 : Below W.heap.size W W3 := below_then HB2.out HB2.out.size h3
                    have hszW := HIN.out.sz
                    rw [HKN.out, he]
                    exact ⟨KeepsFrom.of_grownBy (grown_of_below hB3 none) (fun j e => by cases e), ⟨hB3.size, fun q hq => hB3.block q (by omega), hB3.block _ (by omega), hB3.block _ (by omega)⟩, HIN.out.kept hBlt (by omega) (by omega) (by omega) (grown_of_below hB3 none) (fun r e => by cases e)⟩
                  have HKO := Lib.hid HKO
                  have gx := cell_regrown cx
                  have gy := cell_regrown cmy
                  have gc := cell_regrown ccm
                  have g0 := cell_regrown cm0
                  have g1 := cell_regrown cm1'
                  have g2 := cell_regrown cm2
                  have g3 := cell_regrown cm3
                  cases ok1 with
                  | false =>
                    refine below_round 2 ll (by kernel_rfl) (by kernel_rfl) (by kernel_rfl) (by rintro ⟨_, _, h⟩; exact h) ?_
                    repeat (go_big_quiet_step (fail))
                    refine wpQuiet_nil ?_
                    intro _ hw'
                    obtain ⟨⟨dq, osq⟩, hw''⟩ := hw'
                    subst hw''
                    clear gx gy gc g0 g1 g2 g3
                    gi_wp2_with fail
                    exact HKO.out _ (below_regrown W2 dq osq) (by rw [HBF.out]; simp)
                  | true =>
                    have HCM := Lib.hid (fun (d : Nat) (os : Array Obj) => HMAY.out («Sort».grow (redrawn W2 d) os) m ((HJ2.out.I.W.g.trans (grown_of_below (below_regrown W2 d os) _))))
                    obtain ⟨mb, hmb⟩ : ∃ mb, may m = mb := ⟨_, rfl⟩
                    rw [hmb, e58] at HCM
                    rw [hmb] at HBF
                    clear hmb
                    cases mb with
                    | false =>
                      refine below_round 2 ll (by kernel_rfl) (by kernel_rfl) (by kernel_rfl) (by rintro ⟨_, _, h⟩; exact h) ?_
                      repeat (go_big_quiet_step (first | (go_at_fn gm; exact Calls.regrown_of (HCM.out _ _))))
                      refine wpQuiet_nil ?_
                      intro _ hw'
                      obtain ⟨⟨dq, osq⟩, hw''⟩ := hw'
                      subst hw''
                      clear gx gy gc g0 g1 g2 g3
                      gi_wp2_with fail
                      exact HKO.out _ (below_regrown W2 dq osq) (by rw [HBF.out]; simp)
                    | true =>
                      by_cases hlt : t1 < ct
                      · have hltd : decide (t1 < ct) = true := decide_eq_true hlt
                        refine below_round 2 ll (by kernel_rfl) (by kernel_rfl) (by kernel_rfl) (by rintro ⟨_, _, h⟩; exact h) ?_
                        repeat (go_big_quiet_step (first | (go_at_fn gm; exact Calls.regrown_of (HCM.out _ _))))
                        refine wpQuiet_nil ?_
                        intro _ hw'
                        obtain ⟨⟨dq, osq⟩, hw''⟩ := hw'
                        subst hw''
                        clear gx gy gc g0 g1 g2 g3
                        have HB3 := Aside0.mk (below_then HB2.out HB2.out.size (below_regrown W2 dq osq))
                        have hbk3 := HBK.out.below (below_regrown W2 dq osq) HBK.out.lt
                        gi_upto_region 24 with (fail)
                        generalize «Sort».grow (redrawn W2 dq) osq = W3 at *
                        replace HBF := Lib.hid (show bodyF step may v s' (i, m) = (s'.1.set m.f1.toNat t1, fun k => if k = m.f1 then some i else s'.2 k) from HBF.out.trans (if_pos ⟨by simp, by simp, hlt⟩))
                        clear HKO HBK HJ2 HB2 cx cmy cm0 cm1' cm2 cm3 ccm
                        obtain ⟨W4d, e4⟩ : ∃ W4d, W3.drew = W4d := ⟨_, rfl⟩
                        have HB4 : Below W.heap.size W W4d := by rw [← e4]; exact below_drew HB3.out
                        have HJ4 := HIN.out.kept hBlt hM6 hL6 hV6 (grown_of_below HB4 none) (fun r e => by cases e)
                        have hbk4 : Blk W4d b 58 (mvC m) := by rw [← e4]; exact hbk3
                        have cx : W4d.cell? ⟨w.heap.size, 0, none⟩ = some (.pointer (some ⟨B, 0, none⟩)) := HJ4.I.W.x.cell 0
                        have cm1' : W4d.cell? ⟨b, 1, none⟩ = some (.int .i64 m.f1) := hbk4.cell 1
                        have ccm := HJ4.I.S.cm m.f1.toNat (by omega)
                        have cfz := HJ4.I.S.fz (4 + m.f1.toNat)
                        refine tail_round 2 ll 7 (by kernel_rfl) (by kernel_rfl) (by kernel_rfl) (by rintro ⟨_, _, h⟩; exact h) ?_
                        rw [e4]
                        simp only [List.take_succ_cons, List.take_zero, List.drop_succ_cons, List.drop_zero]
                        repeat still_step
                        refine wpStill_nil ?_
                        go_wp2_with fail
                        have HJ5 := HJ4.come hBlt hMb (by omega) m.f1.toNat (by omega) t1
                        have hg5 := grown_set W4d B (4 + m.f1.toNat) (.int .i64 t1)
                        have hbk5 := hbk4.kept hg5 (by have := HIN.out.I.ge; simp; omega)
                        generalize W4d.setCell ⟨B, 4 + m.f1.toNat, none⟩ (.int .i64 t1) = W5d at *
                        clear cx cm1' ccm cfz hbk4
                        obtain ⟨W6d, e6⟩ : ∃ W6d, W5d.drew = W6d := ⟨_, rfl⟩
                        have hg6 : W5d.grownBy W6d none := by rw [← e6]; exact grown_of_below (below_drew (Below.refl _ _)) none
                        have HJ6d := HJ5.kept hBlt hM6 hL6 hV6 hg6 (fun r e => by cases e)
                        have hbk6 := hbk5.kept hg6 (by simp)
                        obtain ⟨N6, hN6⟩ := HJ6d.I.Mp
                        obtain ⟨W7d, hup, hmap, hg7⟩ := hN6.update keyOK Try.underlying94 m.f1 (.int .i64 i)
                        have HJ7 := HJ6d.mapped hBlt hMb (by omega) hg7 hmap (f2 := fun k => if k = m.f1 then some i else s'.2 k) (fun k => by split <;> rfl)
                        have cx : W6d.cell? ⟨w.heap.size, 0, none⟩ = some (.pointer (some ⟨B, 0, none⟩)) := HJ6d.I.W.x.cell 0
                        have cmp := HJ6d.I.S.cmap
                        have cm1' : W6d.cell? ⟨b, 1, none⟩ = some (.int .i64 m.f1) := hbk6.cell 1
                        have hup' : (Instr.mapUpdate 94 (.map (some M)) (.agg #[.int .i64 m.f1]) (.int .i64 i)).run Try.prog W6d = .ok () W7d := hup
                        clear hup hmap
                        refine tail_round 2 ll 8 (by kernel_rfl) (by kernel_rfl) (by kernel_rfl) (by rintro ⟨_, _, h⟩; exact h) ?_
                        rw [e6]
                        simp only [List.take_succ_cons, List.take_zero, List.drop_succ_cons, List.drop_zero]
                        repeat still_step
                        refine wpStill_nil ?_
                        go_wp2_with fail
                        have hge := HIN.out.I.ge
                        have hszW := HIN.out.sz
                        have hk7 : ∀ q, q < W.heap.size → q ≠ B → q ≠ M → W7d.heap[q]? = W.heap[q]? := fun q h1 h2 h3 => by
                          have s4 := HB4.size
                          have s5 := hg5.size
                          have s6 := hg6.size
                          exact (hg7.block q (by omega) (by simpa using h3)).trans ((hg6.block q (by omega) (by simp)).trans ((hg5.block q (by omega) (by simpa using h2)).trans (HB4.block q h1)))
                        have hfin := (HKN.out W7d).mpr ⟨((KeepsFrom.of_grownBy (grown_of_below HB4 none) (fun j e => by cases e)).trans (KeepsFrom.of_grownBy hg5 (fun j e => by cases e; omega))).trans ((KeepsFrom.of_grownBy hg6 (fun j e => by cases e)).trans (KeepsFrom.of_grownBy hg7 (fun j e => by cases e; omega))), ⟨Nat.le_trans HB4.size (Nat.le_trans hg5.size (Nat.le_trans hg6.size hg7.size)), ?_, ?_, ?_⟩, by rw [HBF.out]; exact HJ7⟩
                        · exact hfin
                        · exact fun q hq => hk7 q (by omega) (by omega) (by omega)
                        · exact hk7 _ (by omega) (by omega) (by omega)
                        · exact hk7 _ (by omega) (by omega) (by omega)
                      · have hltd : decide (t1 < ct) = false := decide_eq_false hlt
                        refine below_round 2 ll (by kernel_rfl) (by kernel_rfl) (by kernel_rfl) (by rintro ⟨_, _, h⟩; exact h) ?_
                        repeat (go_big_quiet_step (first | (go_at_fn gm; exact Calls.regrown_of (HCM.out _ _))))
                        refine wpQuiet_nil ?_
                        intro _ hw'
                        obtain ⟨⟨dq, osq⟩, hw''⟩ := hw'
                        subst hw''
                        clear gx gy gc g0 g1 g2 g3
                        gi_wp2_with fail
                        exact HKO.out _ (below_regrown W2 dq osq) (by rw [HBF.out]; simp; intro h; omega)
                case jdone =>
                  intro D xs' W hD hxs hI hWD
                  rw [hxs] at hI
                  have hys := HYS.out
                  refine hK _ _ (Handed.intro k1 (Nat.lt_succ_self _) (hJ _ _ _ ⟨_, ys, D :: Ds, _, _, _, _, _, _, _, _, _, _, _, _, _, _, _, _, _, _, _, _, rfl, ⟨hI.I⟩, ⟨hI.row⟩, ⟨?_, ?_⟩, ⟨?_⟩, ⟨?_⟩, ⟨?_⟩⟩))
                  · exact List.nodup_cons.2 ⟨fun h => by have := (hI.ds D h).2.1; omega, HND.out⟩
                  · intro E hE
                    rcases List.mem_cons.1 hE with rfl | hE
                    · exact ⟨by omega, hWD⟩
                    · exact ⟨(hI.ds E hE).1, (hI.ds E hE).2.2⟩
                  · intro u hu
                    rw [hys] at hu
                    exact HVR.out u (List.mem_filter.1 hu).1
                  · rw [hys]; exact HT4.out.symm
                  · have := HKR.out
                    have h2 : ys.length < (x :: xs).length := by
                      rw [hys]
                      exact List.length_filter_lt_length_iff_exists.2 ⟨v, HVM.out, by simp⟩
                    omega
end Go.Proofs.Ytfhmepdbbhcncaa.P

namespace Go.Proofs.Ytfhmepdbbhcncaa.P
open Go.RowKit Go.Proofs.YtfhmepdbbhcncaaW.PrintWords Go.Proofs.YtfhmepdbbhcncaaW.PrintLast
set_option linter.unusedVariables false
set_option linter.unusedSimpArgs false

/-! ### forecourtlaw05_great: function 14 -/
def forecourtlaw05_great.f (a0_0 : Int) (l0_1 : List (S58)) : Option (Bool) := some (decide ((l0_1.length : Int) > 50))
set_option maxHeartbeats 8000000 in
set_option maxRecDepth 100000 in
theorem forecourtlaw05_great.calls (a0_0 : Int) (A0_1 : Option Addr) (c0_1 : Nat) (l0_1 : List (S58)) (r : Bool) (w : World) (hr0_1 : Kd.C k58 w A0_1 l0_1.length l0_1) (hc0_1 : l0_1.length ≤ c0_1) (h : forecourtlaw05_great.f a0_0 l0_1 = some r) :
    Calls Try.prog 14 #[.agg #[.int .i64 a0_0, .slice A0_1 l0_1.length c0_1]] w fun e w' => e = .returned (.bool r) ∧ Below w.heap.size w w' := by
  have hu24 := Try.underlying24
  have HR0_1 := Aside0.mk hr0_1
  have HC0_1 := Aside0.mk hc0_1
  clear hr0_1 hc0_1
  have HB := Aside0.mk (Below.refl w.heap.size w)
  have H : (some (decide ((l0_1.length : Int) > 50))) = some r := h
  clear h
  obtain rfl := Option.some.inj H
  go_enter Try.func14, Try.ntmps14
  go_wp2_with (first | ((with_reducible refine gate_dst (N := 1) rfl ?_); refine box_event ?hg (N := 1) ?hd (cs := #[.int .i64 a0_0, .slice A0_1 l0_1.length c0_1]) (t := 24) ?hr ?_; (case hd => rfl); (case hg => rfl); (case hr => first | (go_simp; done) | (go_simp; rfl)); intro gb101 hg w2 hbox hb; have n0_ := Aside0.mk (below_step (by repeat (first | (with_reducible first | exact HB.out | apply below_alloc | apply pw_below_drewN | apply below_drew1) | exact HB.out)) hb); have n1_ := Aside0.mk (hbox); have n2_ := Aside0.mk ((by rw [hg]; exact (below_size (by repeat (first | (with_reducible first | exact HB.out | apply below_alloc | apply pw_below_drewN | apply below_drew1) | exact HB.out))) : w.heap.size ≤ gb101)); have n3_ := Aside0.mk ((by rw [hg]; exact (below_size (by repeat (first | (with_reducible first | exact HB.out | apply below_alloc | apply pw_below_drewN | apply below_drew1) | exact HB.out))) : w.heap.size ≤ gb101)); clear HB; have HB := n0_; have BK101 := n1_; have GW101 := n2_; have GE101 := n3_; clear n0_ n1_ n2_ n3_; clear hb hbox hg; have hcz3_0 : w2.cell? ⟨gb101, 0, none⟩ = some (.int .i64 a0_0) := (blk_cell BK101.out 0).trans rfl; have hcz3_1 : w2.cell? ⟨gb101, 1, none⟩ = some (.slice A0_1 l0_1.length c0_1) := (blk_cell BK101.out 1).trans rfl; have hfz3_0 := blk_frozen BK101.out 0; have hfz3_1 := blk_frozen BK101.out 1))
  go_ret
  exact ⟨by first | rfl | (simp [errW_none, errW_some] <;> rfl) | (simp [*, errW_none, errW_some] <;> rfl), by repeat (first | (with_reducible first | exact HB.out | apply below_alloc | apply pw_below_drewN | apply below_drew1 | refine below_set ?_ GE101.out) | exact HB.out)⟩

-- NOT PRINTED: function 71 (api_TaintMove_71)

-- NOT PRINTED: function 50 (api_TaintMove_50)

-- NOT PRINTED: function 75 (slices_IndexFunc_int64_int64)

-- NOT PRINTED: function 58 (slices_ContainsFunc_int64_int64)

-- NOT PRINTED: function 49 (taint_within)

-- NOT PRINTED: function 74 (slices_IndexFunc_int_int)

-- NOT PRINTED: function 53 (slices_ContainsFunc_int_int)

-- NOT PRINTED: function 52 (taint_open)

/-! ### taint_soonest: function 55 -/
def taint_soonest.f (a0 : Int) (a1_0 : Int) (a1_1 : Int) (a1_2 : Int) (a1_3 : Int) : Option (Int × Bool) := some (mx a0 a1_2, decide (a0 ≤ a1_3))
/-! ### taint_surest: function 56 -/
def taint_surest.f (a0 : Int) (a1_0 : Int) (a1_1 : Int) (a1_2 : Int) (a1_3 : Int) : Option (Int × Bool) := some (a1_3, decide (a0 ≤ a1_2))
-- NOT PRINTED: function 76 (taint_least_int)

-- NOT PRINTED: function 78 (slices_DeleteFunc_int_int)

-- NOT PRINTED: function 80 (taint_search_out)

-- NOT PRINTED: function 61 (taint_search_run)

-- NOT PRINTED: function 62 (taint_search_any)

-- NOT PRINTED: function 63 (slices_Clone_int64_int64)

/-! ### forecourtlaw05_longs: function 28 -/
def forecourtlaw05_longs.l0 : Nat → List Int → List Int → Int → Option (Bool)
  | 0, _, _, _ => none
  | k + 1, x0, x1, x5 => if x5 < (x0.length : Int) then (if 0 ≤ x5 then (if x5 < (x1.length : Int) then (if (rd x0 x5) = (rd x1 x5) then (forecourtlaw05_longs.l0 k x0 x1 (wrap64 (x5 + 1))) else (some false)) else (none)) else (none)) else (some true)
def forecourtlaw05_longs.f (k : Nat) (l0 : List Int) (l1 : List Int) : Option (Bool) := if (l0.length : Int) = (l1.length : Int) then (forecourtlaw05_longs.l0 k l0 l1 0) else (some false)
set_option maxHeartbeats 8000000 in
set_option maxRecDepth 100000 in
theorem forecourtlaw05_longs.calls (k : Nat) (A0 : Option Addr) (c0 : Nat) (l0 : List Int) (A1 : Option Addr) (c1 : Nat) (l1 : List Int) (r : Bool) (w : World) (hr0 : Kd.C (Kd.int .i64) w A0 l0.length l0) (hc0 : l0.length ≤ c0) (hr1 : Kd.C (Kd.int .i64) w A1 l1.length l1) (hc1 : l1.length ≤ c1) (h : forecourtlaw05_longs.f k l0 l1 = some r) :
    Calls Try.prog 28 #[.slice A0 l0.length c0, .slice A1 l1.length c1] w fun e w' => e = .returned (.bool r) ∧ Drawn0 w w' := by
  have HR0 := Aside0.mk hr0
  have HC0 := Aside0.mk hc0
  clear hr0 hc0
  have HR1 := Aside0.mk hr1
  have HC1 := Aside0.mk hc1
  clear hr1 hc1
  have H : (if (l0.length : Int) = (l1.length : Int) then (forecourtlaw05_longs.l0 k l0 l1 0) else (some false)) = some r := h
  clear h
  by_cases c3 : (l0.length : Int) = (l1.length : Int)
  · rw [if_pos c3] at H
    have c3b0 : ((l0.length : Int) == (l1.length : Int)) = true := beq_iff_eq.mpr c3
    have c3b1 : ((l0.length : Int) != (l1.length : Int)) = false := bne_eq_false_iff_eq.mpr c3
    have c3b2 : (l0.length == l1.length) = true := by first | simpa using c3 | (simp at c3 ⊢; omega)
    clear c3
    have H' := Aside0.mk H
    clear H
    go_enter Try.func28, Try.ntmps28
    go_wp2
    repeat (go_quiet (fail); try go_wp2)
    go_loopg [5] k (fun kq v5 w' => ∃ (x5_1 : Int), v5 = .int .i64 x5_1 ∧ Aside0 (forecourtlaw05_longs.l0 kq l0 l1 x5_1 = some r) ∧ Aside0 (kq ≤ k) ∧ Drawn0 w w')
    case atStart => exact ⟨(0), (by first | rfl | (simp; done) | (simp [*]; done)), H', ⟨Nat.le_refl _⟩, by repeat (first | exact Drawn0.refl _ | apply Drawn0.step)⟩
    case round =>
      clear H'
      try clear c1
      try clear c2
      try clear p2
      try clear c3
      try clear c3b0
      try clear c3b1
      try clear c3b2
      obtain ⟨x5_1, rfl, HA, HK1, ⟨m1, rfl⟩⟩ := hrel
      cases gk with
      | zero => exact absurd HA.out (by simp [forecourtlaw05_longs.l0])
      | succ k1 =>
        have H := HA.out
        clear HA
        simp only [forecourtlaw05_longs.l0] at H
        by_cases c4 : x5_1 < (l0.length : Int)
        · rw [if_pos c4] at H
          have c4b0 : decide (x5_1 < (l0.length : Int)) = true := decide_eq_true c4
          clear c4
          by_cases c5 : 0 ≤ x5_1
          · rw [if_pos c5] at H
            have c5b0 : decide (0 ≤ x5_1) = true := decide_eq_true c5
            clear c5
            by_cases c6 : x5_1 < (l1.length : Int)
            · rw [if_pos c6] at H
              have c6b0 : decide (x5_1 < (l1.length : Int)) = true := decide_eq_true c6
              clear c6
              by_cases c7 : (rd l0 x5_1) = (rd l1 x5_1)
              · rw [if_pos c7] at H
                have c7b0 : ((rd l0 x5_1) == (rd l1 x5_1)) = true := beq_iff_eq.mpr c7
                have c7b1 : ((rd l0 x5_1) != (rd l1 x5_1)) = false := bne_eq_false_iff_eq.mpr c7
                clear c7
                have H' := Aside0.mk H
                clear H
                have p104 : 0 ≤ (x5_1 : Int) := of_decide_eq_true (by first | (with_reducible assumption) | assumption)
                have q104 : x5_1 < (l0.length : Int) := of_decide_eq_true (by first | (with_reducible assumption) | assumption)
                obtain ⟨ad104, e104, hx104_0⟩ := Kd.at_int HR0.out x5_1 p104 q104
                cases e104
                replace p104 := eq_true p104
                replace q104 := eq_true q104
                have p105 : 0 ≤ (x5_1 : Int) := of_decide_eq_true (by first | (with_reducible assumption) | assumption)
                have q105 : x5_1 < (l1.length : Int) := of_decide_eq_true (by first | (with_reducible assumption) | assumption)
                obtain ⟨ad105, e105, hx105_0⟩ := Kd.at_int HR1.out x5_1 p105 q105
                cases e105
                replace p105 := eq_true p105
                replace q105 := eq_true q105
                go_wp2
                repeat (go_quiet (fail); try go_wp2)
                go_roundg k1
                case measure => have := HK1.out; omega
                case rel => exact ⟨(wrap64 (x5_1 + 1)), (by first | rfl | (simp; done) | (simp [*]; done)), H', ⟨by have := HK1.out; omega⟩, by repeat (first | exact Drawn0.refl _ | apply Drawn0.step)⟩
              · rw [if_neg c7] at H
                have c7b0 : ((rd l0 x5_1) == (rd l1 x5_1)) = false := beq_eq_false_iff_ne.mpr c7
                have c7b1 : ((rd l0 x5_1) != (rd l1 x5_1)) = true := bne_iff_ne.mpr c7
                obtain rfl := Option.some.inj H
                have p104 : 0 ≤ (x5_1 : Int) := of_decide_eq_true (by first | (with_reducible assumption) | assumption)
                have q104 : x5_1 < (l0.length : Int) := of_decide_eq_true (by first | (with_reducible assumption) | assumption)
                obtain ⟨ad104, e104, hx104_0⟩ := Kd.at_int HR0.out x5_1 p104 q104
                cases e104
                replace p104 := eq_true p104
                replace q104 := eq_true q104
                have p105 : 0 ≤ (x5_1 : Int) := of_decide_eq_true (by first | (with_reducible assumption) | assumption)
                have q105 : x5_1 < (l1.length : Int) := of_decide_eq_true (by first | (with_reducible assumption) | assumption)
                obtain ⟨ad105, e105, hx105_0⟩ := Kd.at_int HR1.out x5_1 p105 q105
                cases e105
                replace p105 := eq_true p105
                replace q105 := eq_true q105
                go_wp2
                repeat (go_quiet (fail); try go_wp2)
                go_ret
                exact ⟨by first | rfl | (simp; done) | (simp [*]; done), by repeat (first | exact Drawn0.refl _ | apply Drawn0.step)⟩
            · rw [if_neg c6] at H
              exact absurd H (by simp)
          · rw [if_neg c5] at H
            exact absurd H (by simp)
        · rw [if_neg c4] at H
          have c4b0 : decide (x5_1 < (l0.length : Int)) = false := decide_eq_false c4
          clear c4
          obtain rfl := Option.some.inj H
          go_wp2
          repeat (go_quiet (fail); try go_wp2)
          go_ret
          exact ⟨by first | rfl | (simp; done) | (simp [*]; done), by repeat (first | exact Drawn0.refl _ | apply Drawn0.step)⟩
  · rw [if_neg c3] at H
    have c3b0 : ((l0.length : Int) == (l1.length : Int)) = false := beq_eq_false_iff_ne.mpr c3
    have c3b1 : ((l0.length : Int) != (l1.length : Int)) = true := bne_iff_ne.mpr c3
    have c3b2 : (l0.length == l1.length) = false := by first | simpa using c3 | (simp at c3 ⊢; omega)
    obtain rfl := Option.some.inj H
    go_enter Try.func28, Try.ntmps28
    go_wp2
    repeat (go_quiet (fail); try go_wp2)
    go_ret
    exact ⟨by first | rfl | (simp; done) | (simp [*]; done), by repeat (first | exact Drawn0.refl _ | apply Drawn0.step)⟩

/-! ### forecourtlaw05_ints: function 29 -/
def forecourtlaw05_ints.l0 : Nat → List Int → List Int → Int → Option (Bool)
  | 0, _, _, _ => none
  | k + 1, x0, x1, x5 => if x5 < (x0.length : Int) then (if 0 ≤ x5 then (if x5 < (x1.length : Int) then (if (rd x0 x5) = (rd x1 x5) then (forecourtlaw05_ints.l0 k x0 x1 (wrap64 (x5 + 1))) else (some false)) else (none)) else (none)) else (some true)
def forecourtlaw05_ints.f (k : Nat) (l0 : List Int) (l1 : List Int) : Option (Bool) := if (l0.length : Int) = (l1.length : Int) then (forecourtlaw05_ints.l0 k l0 l1 0) else (some false)
set_option maxHeartbeats 8000000 in
set_option maxRecDepth 100000 in
theorem forecourtlaw05_ints.calls (k : Nat) (A0 : Option Addr) (c0 : Nat) (l0 : List Int) (A1 : Option Addr) (c1 : Nat) (l1 : List Int) (r : Bool) (w : World) (hr0 : Kd.C (Kd.int .i64) w A0 l0.length l0) (hc0 : l0.length ≤ c0) (hr1 : Kd.C (Kd.int .i64) w A1 l1.length l1) (hc1 : l1.length ≤ c1) (h : forecourtlaw05_ints.f k l0 l1 = some r) :
    Calls Try.prog 29 #[.slice A0 l0.length c0, .slice A1 l1.length c1] w fun e w' => e = .returned (.bool r) ∧ Drawn0 w w' := by
  have HR0 := Aside0.mk hr0
  have HC0 := Aside0.mk hc0
  clear hr0 hc0
  have HR1 := Aside0.mk hr1
  have HC1 := Aside0.mk hc1
  clear hr1 hc1
  have H : (if (l0.length : Int) = (l1.length : Int) then (forecourtlaw05_ints.l0 k l0 l1 0) else (some false)) = some r := h
  clear h
  by_cases c3 : (l0.length : Int) = (l1.length : Int)
  · rw [if_pos c3] at H
    have c3b0 : ((l0.length : Int) == (l1.length : Int)) = true := beq_iff_eq.mpr c3
    have c3b1 : ((l0.length : Int) != (l1.length : Int)) = false := bne_eq_false_iff_eq.mpr c3
    have c3b2 : (l0.length == l1.length) = true := by first | simpa using c3 | (simp at c3 ⊢; omega)
    clear c3
    have H' := Aside0.mk H
    clear H
    go_enter Try.func29, Try.ntmps29
    go_wp2
    repeat (go_quiet (fail); try go_wp2)
    go_loopg [5] k (fun kq v5 w' => ∃ (x5_1 : Int), v5 = .int .i64 x5_1 ∧ Aside0 (forecourtlaw05_ints.l0 kq l0 l1 x5_1 = some r) ∧ Aside0 (kq ≤ k) ∧ Drawn0 w w')
    case atStart => exact ⟨(0), (by first | rfl | (simp; done) | (simp [*]; done)), H', ⟨Nat.le_refl _⟩, by repeat (first | exact Drawn0.refl _ | apply Drawn0.step)⟩
    case round =>
      clear H'
      try clear c1
      try clear c2
      try clear p2
      try clear c3
      try clear c3b0
      try clear c3b1
      try clear c3b2
      obtain ⟨x5_1, rfl, HA, HK1, ⟨m1, rfl⟩⟩ := hrel
      cases gk with
      | zero => exact absurd HA.out (by simp [forecourtlaw05_ints.l0])
      | succ k1 =>
        have H := HA.out
        clear HA
        simp only [forecourtlaw05_ints.l0] at H
        by_cases c4 : x5_1 < (l0.length : Int)
        · rw [if_pos c4] at H
          have c4b0 : decide (x5_1 < (l0.length : Int)) = true := decide_eq_true c4
          clear c4
          by_cases c5 : 0 ≤ x5_1
          · rw [if_pos c5] at H
            have c5b0 : decide (0 ≤ x5_1) = true := decide_eq_true c5
            clear c5
            by_cases c6 : x5_1 < (l1.length : Int)
            · rw [if_pos c6] at H
              have c6b0 : decide (x5_1 < (l1.length : Int)) = true := decide_eq_true c6
              clear c6
              by_cases c7 : (rd l0 x5_1) = (rd l1 x5_1)
              · rw [if_pos c7] at H
                have c7b0 : ((rd l0 x5_1) == (rd l1 x5_1)) = true := beq_iff_eq.mpr c7
                have c7b1 : ((rd l0 x5_1) != (rd l1 x5_1)) = false := bne_eq_false_iff_eq.mpr c7
                clear c7
                have H' := Aside0.mk H
                clear H
                have p106 : 0 ≤ (x5_1 : Int) := of_decide_eq_true (by first | (with_reducible assumption) | assumption)
                have q106 : x5_1 < (l0.length : Int) := of_decide_eq_true (by first | (with_reducible assumption) | assumption)
                obtain ⟨ad106, e106, hx106_0⟩ := Kd.at_int HR0.out x5_1 p106 q106
                cases e106
                replace p106 := eq_true p106
                replace q106 := eq_true q106
                have p107 : 0 ≤ (x5_1 : Int) := of_decide_eq_true (by first | (with_reducible assumption) | assumption)
                have q107 : x5_1 < (l1.length : Int) := of_decide_eq_true (by first | (with_reducible assumption) | assumption)
                obtain ⟨ad107, e107, hx107_0⟩ := Kd.at_int HR1.out x5_1 p107 q107
                cases e107
                replace p107 := eq_true p107
                replace q107 := eq_true q107
                go_wp2
                repeat (go_quiet (fail); try go_wp2)
                go_roundg k1
                case measure => have := HK1.out; omega
                case rel => exact ⟨(wrap64 (x5_1 + 1)), (by first | rfl | (simp; done) | (simp [*]; done)), H', ⟨by have := HK1.out; omega⟩, by repeat (first | exact Drawn0.refl _ | apply Drawn0.step)⟩
              · rw [if_neg c7] at H
                have c7b0 : ((rd l0 x5_1) == (rd l1 x5_1)) = false := beq_eq_false_iff_ne.mpr c7
                have c7b1 : ((rd l0 x5_1) != (rd l1 x5_1)) = true := bne_iff_ne.mpr c7
                obtain rfl := Option.some.inj H
                have p106 : 0 ≤ (x5_1 : Int) := of_decide_eq_true (by first | (with_reducible assumption) | assumption)
                have q106 : x5_1 < (l0.length : Int) := of_decide_eq_true (by first | (with_reducible assumption) | assumption)
                obtain ⟨ad106, e106, hx106_0⟩ := Kd.at_int HR0.out x5_1 p106 q106
                cases e106
                replace p106 := eq_true p106
                replace q106 := eq_true q106
                have p107 : 0 ≤ (x5_1 : Int) := of_decide_eq_true (by first | (with_reducible assumption) | assumption)
                have q107 : x5_1 < (l1.length : Int) := of_decide_eq_true (by first | (with_reducible assumption) | assumption)
                obtain ⟨ad107, e107, hx107_0⟩ := Kd.at_int HR1.out x5_1 p107 q107
                cases e107
                replace p107 := eq_true p107
                replace q107 := eq_true q107
                go_wp2
                repeat (go_quiet (fail); try go_wp2)
                go_ret
                exact ⟨by first | rfl | (simp; done) | (simp [*]; done), by repeat (first | exact Drawn0.refl _ | apply Drawn0.step)⟩
            · rw [if_neg c6] at H
              exact absurd H (by simp)
          · rw [if_neg c5] at H
            exact absurd H (by simp)
        · rw [if_neg c4] at H
          have c4b0 : decide (x5_1 < (l0.length : Int)) = false := decide_eq_false c4
          clear c4
          obtain rfl := Option.some.inj H
          go_wp2
          repeat (go_quiet (fail); try go_wp2)
          go_ret
          exact ⟨by first | rfl | (simp; done) | (simp [*]; done), by repeat (first | exact Drawn0.refl _ | apply Drawn0.step)⟩
  · rw [if_neg c3] at H
    have c3b0 : ((l0.length : Int) == (l1.length : Int)) = false := beq_eq_false_iff_ne.mpr c3
    have c3b1 : ((l0.length : Int) != (l1.length : Int)) = true := bne_iff_ne.mpr c3
    have c3b2 : (l0.length == l1.length) = false := by first | simpa using c3 | (simp at c3 ⊢; omega)
    obtain rfl := Option.some.inj H
    go_enter Try.func29, Try.ntmps29
    go_wp2
    repeat (go_quiet (fail); try go_wp2)
    go_ret
    exact ⟨by first | rfl | (simp; done) | (simp [*]; done), by repeat (first | exact Drawn0.refl _ | apply Drawn0.step)⟩

/-! ### slices_Reverse_int_int: function 81 -/
def slices_Reverse_int_int.l0 : Nat → List Int → Int → Int → Option (List Int)
  | 0, _, _, _ => none
  | k + 1, x0, x2, x3 => if x2 < x3 then (if 0 ≤ x3 then (if x3 < (x0.length : Int) then (if 0 ≤ x2 then (if x2 < (x0.length : Int) then (slices_Reverse_int_int.l0 k ((x0.set (x2 : Int).toNat (rd x0 x3)).set (x3 : Int).toNat (rd x0 x2)) (wrap64 (x2 + 1)) (wrap64 (x3 - 1))) else (none)) else (none)) else (none)) else (none)) else (some x0)
def slices_Reverse_int_int.f (k : Nat) (l0 : List Int) : Option (List Int) := slices_Reverse_int_int.l0 k l0 0 (wrap64 ((l0.length : Int) - 1))
def slices_Reverse_int_int.T3 : Bool × List (List Nat × List Nat) := (true, [([], []), ([], []), ([], []), ([], []), ([], []), ([], []), ([4, 5], [4, 5]), ([6], [6]), ([], []), ([], []), ([8, 9], [8, 9]), ([10], [10]), ([0, 1, 0, 1, 4, 5, 6, 7, 11], [0, 1]), ([12, 7, 0, 1, 4, 5, 6, 7, 11], [7, 12]), ([2, 3, 0, 1, 2, 3, 4, 5, 6, 7, 8, 9, 10, 11, 12, 13], [2, 3]), ([14, 11, 13, 0, 1, 2, 3, 4, 5, 6, 7, 8, 9, 10, 11, 12, 13], [11, 14])])
def slices_Reverse_int_int.B3 : List Nat := [0, 0, 0, 0, 0, 0, 48, 112, 0, 0, 768, 1792, 4083, 8179, 16383, 32767]
theorem slices_Reverse_int_int.tab3 : rtab .any (opsOf Try.f81 3) = slices_Reverse_int_int.T3 := by kernel_rfl
theorem slices_Reverse_int_int.bits3 : waitsOk slices_Reverse_int_int.T3.2 slices_Reverse_int_int.B3 = true := by kernel_rfl
set_option maxHeartbeats 8000000 in
set_option maxRecDepth 100000 in
theorem slices_Reverse_int_int.calls (k : Nat) (P0_ : Nat → Prop) (u9000_ : Value) (l0 : List Int) (r : List Int) (w0 w : World) (hB : Below w0.heap.size w0 w) (ho0 : Kd.R (Kd.int .i64) 3 w w0.heap.size P0_ u9000_ l0) (h : slices_Reverse_int_int.f k l0 = some r) :
    Calls Try.prog 81 #[u9000_] w fun e w' => e = .returned (.tuple #[]) ∧ Kd.R (Kd.int .i64) 3 w' w0.heap.size (fun k_ => (P0_ k_ ∨ w.heap.size ≤ k_)) u9000_ r ∧ Below w0.heap.size w0 w' ∧ Kept w w' (fun k_ => P0_ k_) := by
  have HO0 := Aside0.mk (show Kd.R (Kd.int .i64) 3 w w0.heap.size (fun k_ => (P0_ k_ ∨ w.heap.size ≤ k_)) u9000_ l0 from Kd.R_mono ho0 (fun k_ hk => (.inl hk)))
  have HK := Aside0.mk (Kept.refl w (fun k_ => P0_ k_))
  have HW0 := Aside0.mk hB.size
  have HB := Aside0.mk hB
  clear hB
  have H : (slices_Reverse_int_int.l0 k l0 0 (wrap64 ((l0.length : Int) - 1))) = some r := h
  clear h
  have H' := Aside0.mk H
  clear H
  obtain ⟨Ao2, co2, eo2⟩ := Kd.R_slice HO0.out
  subst eo2
  go_enter Try.func81, Try.ntmps81
  go_wp2
  go_loopg [2, 3] k (fun kq v2 v3 w' => ∃ (x0_1 : List Int) (x2_1 : Int) (x3_1 : Int), v2 = .int .i64 x2_1 ∧ v3 = .int .i64 x3_1 ∧ Aside0 (slices_Reverse_int_int.l0 kq x0_1 x2_1 x3_1 = some r) ∧ Aside0 (kq ≤ k) ∧ Aside0 (Kd.R (Kd.int .i64) 3 w' w0.heap.size (fun k_ => (P0_ k_ ∨ w.heap.size ≤ k_)) (.slice Ao2 l0.length co2) x0_1) ∧ Aside0 (Kept w w' (fun k_ => P0_ k_)) ∧ Aside0 (Below w0.heap.size w0 w'))
  case atStart => exact ⟨(l0), (0), (wrap64 ((l0.length : Int) - 1)), (by first | rfl | (simp; done) | (simp [*]; done)), (by first | rfl | (simp; done) | (simp [*]; done)), H', ⟨Nat.le_refl _⟩, ⟨by (with_reducible repeat (first | apply Kd.R_alloc | apply Kd.R_drewN | apply Kd.R_drew)); exact HO0.out⟩, ⟨by repeat (first | (with_reducible first | exact HK.out | apply Kept.alloc | apply Kept.drewN | apply Kept.drew) | exact HK.out)⟩, ⟨by repeat (first | (with_reducible first | exact HB.out | apply below_alloc | apply pw_below_drewN | apply below_drew1) | exact HB.out)⟩⟩
  case round =>
    clear H'
    try clear p2
    obtain ⟨x0_1, x2_1, x3_1, rfl, rfl, HA, HK1, HO_0, HK, HB⟩ := hrel
    have hl0_1 := (Kd.R_reads' HO_0.out).1
    rw [hl0_1] at HO_0
    (try simp only [hl0_1])
    cases gk with
    | zero => exact absurd HA.out (by simp [slices_Reverse_int_int.l0])
    | succ k1 =>
      have H := HA.out
      clear HA
      simp only [slices_Reverse_int_int.l0] at H
      by_cases c3 : x2_1 < x3_1
      · rw [if_pos c3] at H
        have c3b0 : decide (x2_1 < x3_1) = true := decide_eq_true c3
        clear c3
        by_cases c4 : 0 ≤ x3_1
        · rw [if_pos c4] at H
          have c4b0 : decide (0 ≤ x3_1) = true := decide_eq_true c4
          clear c4
          by_cases c5 : x3_1 < (x0_1.length : Int)
          · rw [if_pos c5] at H
            have c5b0 : decide (x3_1 < (x0_1.length : Int)) = true := decide_eq_true c5
            clear c5
            by_cases c6 : 0 ≤ x2_1
            · rw [if_pos c6] at H
              have c6b0 : decide (0 ≤ x2_1) = true := decide_eq_true c6
              clear c6
              by_cases c7 : x2_1 < (x0_1.length : Int)
              · rw [if_pos c7] at H
                have c7b0 : decide (x2_1 < (x0_1.length : Int)) = true := decide_eq_true c7
                clear c7
                obtain ⟨y110, hy110⟩ : ∃ y_ : List Int, y_ = (x0_1.set (x2_1 : Int).toNat (rd x0_1 x3_1)) := ⟨_, rfl⟩
                replace H : (slices_Reverse_int_int.l0 k1 (y110.set (x3_1 : Int).toNat (rd x0_1 x2_1)) (wrap64 (x2_1 + 1)) (wrap64 (x3_1 - 1))) = some r := by first | (rw [hy110]; with_reducible exact H) | (have H2_ := (Option.bind_some _ _).symm.trans H; rw [hy110]; with_reducible exact H2_) | (have H2_ := (Option.bind_some _ _).symm.trans H; with_reducible exact H2_) | with_reducible exact H | (rw [hy110]; exact H) | exact H
                have Ny110 := Aside0.mk hy110
                clear hy110
                obtain ⟨y111, hy111⟩ : ∃ y_ : List Int, y_ = (y110.set (x3_1 : Int).toNat (rd x0_1 x2_1)) := ⟨_, rfl⟩
                replace H : (slices_Reverse_int_int.l0 k1 y111 (wrap64 (x2_1 + 1)) (wrap64 (x3_1 - 1))) = some r := by first | (rw [hy111]; with_reducible exact H) | (have H2_ := (Option.bind_some _ _).symm.trans H; rw [hy111]; with_reducible exact H2_) | (have H2_ := (Option.bind_some _ _).symm.trans H; with_reducible exact H2_) | with_reducible exact H | (rw [hy111]; exact H) | exact H
                have Ny111 := Aside0.mk hy111
                clear hy111
                have H' := Aside0.mk H
                clear H
                try go_wp2
                have n0_ := Aside0.mk (Kd.R_drew HO_0.out)
                have n1_ := Aside0.mk (Kept.drew HK.out)
                have n2_ := Aside0.mk (below_drew1 HB.out)
                clear HO_0
                clear HK
                clear HB
                have HO_0 := n0_
                have HK := n1_
                have HB := n2_
                clear n0_ n1_ n2_
                have p108 : 0 ≤ (x3_1 : Int) := of_decide_eq_true (by first | (with_reducible assumption) | assumption)
                have q108 : x3_1 < (x0_1.length : Int) := of_decide_eq_true (by first | (with_reducible assumption) | assumption)
                obtain ⟨ad108, e108, hx108_0⟩ := Kd.at_int (Kd.R_reads' HO_0.out).2.2 x3_1 p108 q108
                cases e108
                replace p108 := eq_true p108
                replace q108 := eq_true q108
                have p109 : 0 ≤ (x2_1 : Int) := of_decide_eq_true (by first | (with_reducible assumption) | assumption)
                have q109 : x2_1 < (x0_1.length : Int) := of_decide_eq_true (by first | (with_reducible assumption) | assumption)
                obtain ⟨ad109, e109, hx109_0⟩ := Kd.at_int (Kd.R_reads' HO_0.out).2.2 x2_1 p109 q109
                obtain rfl : ad108 = ad109 := (by injection e109)
                replace p109 := eq_true p109
                replace q109 := eq_true q109
                have p8 : 0 ≤ (x2_1 : Int) := of_decide_eq_true (by first | (with_reducible assumption) | assumption)
                have q8 : (x2_1 : Int) < ((x0_1.length : Int) : Int) := of_decide_eq_true (by first | (with_reducible assumption) | assumption)
                obtain ⟨go8, co8, eo8, gb8, gl8, cl8, HG8⟩ := Kd.R_form HO_0.out (by omega)
                (first | cases eo8 | (injection eo8 with ea_ en_ ec_; (first | subst ea_ | (injection ea_ with ea_; subst ea_)); subst ec_; clear en_))
                have GB8 := Aside0.mk gb8
                have GG8 := Aside0.mk HG8
                clear gb8 gl8 HG8
                have HMgo8 := Aside0.mk (show (P0_ go8 ∨ w.heap.size ≤ go8) from (HO_0.out.1 _ rfl))
                (first | simp only [add_plain] at hx108_0 | skip)
                (first | simp only [add_plain] at hx109_0 | skip)
                obtain ⟨hx8_0, hf8_0⟩ := Kd.R_celln 0 HO_0.out (x2_1 : Int) p8 q8
                replace p8 := eq_true p8
                replace q8 := eq_true q8
                have HP11 := Kd.R_putn HO_0.out (x2_1 : Int) (rd x0_1 x3_1)
                rw [← Ny110.out] at HP11
                have HQ11 := Aside0.mk HP11
                clear HP11
                have p9 : 0 ≤ (x3_1 : Int) := of_decide_eq_true (by first | (with_reducible assumption) | assumption)
                have q9 : (x3_1 : Int) < ((x0_1.length : Int) : Int) := of_decide_eq_true (by first | (with_reducible assumption) | assumption)
                obtain ⟨hx9_0, hf9_0⟩ := Kd.R_celln 0 HQ11.out (x3_1 : Int) p9 q9
                replace p9 := eq_true p9
                replace q9 := eq_true q9
                have HP12 := Kd.R_putn HQ11.out (x3_1 : Int) (rd x0_1 x2_1)
                rw [← Ny111.out] at HP12
                have HQ12 := Aside0.mk HP12
                clear HP12
                refine start_ (n := 16) (S := fun w' => w'.cell? ⟨go8, (x3_1).toNat, none⟩ = some (.int .i64 (rd x0_1 x3_1)) ∧ w'.cell? ⟨go8, (x2_1).toNat, none⟩ = some (.int .i64 (rd x0_1 x2_1))) (ds := [13, 15]) #[false, false, false, false, false, false, false, false, false, false, false, false, false, false, false, false] (by kernel_rfl) rfl rfl ⟨hx108_0, hx109_0⟩ (fun hHeld => ?_); refine with_tabW slices_Reverse_int_int.tab3 slices_Reverse_int_int.bits3 (fun HT_ HW_ => ?_)
                generalize wr.drew = w10 at HO_0 HK HB GG8 HQ11 HQ12 hf8_0 hf9_0 hx108_0 hx109_0 hx8_0 hx9_0 hHeld ⊢
                refine pure_ (i := 0) (N := some 14) (v := ?_) (a' := ?_) #[true, false, false, false, false, false, false, false, false, false, false, false, false, false, false, false] rfl rfl (any_of HT_.out (by kernel_rfl)) (fun _ _ _ h => h) (Or.inl ⟨by rfl, ?_⟩) ?_ ?_
                rotate_left
                · intro w'
                  go_simp
                  with_reducible rfl
                rotate_left
                · simp only [Act.put, List.setIfInBounds_toArray, List.set_cons_zero, List.set_cons_succ, i64_w, i32_w]
                  rfl
                refine pure_ (i := 1) (N := some 15) (v := ?_) (a' := ?_) #[true, true, false, false, false, false, false, false, false, false, false, false, false, false, false, false] rfl rfl (any_of HT_.out (by kernel_rfl)) (fun _ _ _ h => h) (Or.inl ⟨by rfl, ?_⟩) ?_ ?_
                rotate_left
                · intro w'
                  go_simp
                  with_reducible rfl
                rotate_left
                · simp only [Act.put, List.setIfInBounds_toArray, List.set_cons_zero, List.set_cons_succ, i64_w, i32_w]
                  rfl
                refine pure_ (i := 2) (N := some 16) (v := ?_) (a' := ?_) #[true, true, true, false, false, false, false, false, false, false, false, false, false, false, false, false] rfl rfl (any_of HT_.out (by kernel_rfl)) (fun _ _ _ h => h) (Or.inl ⟨by rfl, ?_⟩) ?_ ?_
                rotate_left
                · intro w'
                  go_simp
                  with_reducible rfl
                rotate_left
                · simp only [Act.put, List.setIfInBounds_toArray, List.set_cons_zero, List.set_cons_succ, i64_w, i32_w]
                  rfl
                refine pure_ (i := 3) (N := some 17) (v := ?_) (a' := ?_) #[true, true, true, true, false, false, false, false, false, false, false, false, false, false, false, false] rfl rfl (any_of HT_.out (by kernel_rfl)) (fun _ _ _ h => h) (Or.inl ⟨by rfl, ?_⟩) ?_ ?_
                rotate_left
                · intro w'
                  go_simp
                  with_reducible rfl
                rotate_left
                · simp only [Act.put, List.setIfInBounds_toArray, List.set_cons_zero, List.set_cons_succ, i64_w, i32_w]
                  rfl
                refine pure_ (i := 4) (N := some 18) (v := ?_) (a' := ?_) #[true, true, true, true, true, false, false, false, false, false, false, false, false, false, false, false] rfl rfl (any_of HT_.out (by kernel_rfl)) (fun _ _ _ h => h) (Or.inl ⟨by rfl, ?_⟩) ?_ ?_
                rotate_left
                · intro w'
                  go_simp
                  with_reducible rfl
                rotate_left
                · simp only [Act.put, List.setIfInBounds_toArray, List.set_cons_zero, List.set_cons_succ, i64_w, i32_w]
                  rfl
                refine pure_ (i := 5) (N := some 19) (v := ?_) (a' := ?_) #[true, true, true, true, true, true, false, false, false, false, false, false, false, false, false, false] rfl rfl (any_of HT_.out (by kernel_rfl)) (fun _ _ _ h => h) (Or.inl ⟨by rfl, ?_⟩) ?_ ?_
                rotate_left
                · intro w'
                  go_simp
                  with_reducible rfl
                rotate_left
                · simp only [Act.put, List.setIfInBounds_toArray, List.set_cons_zero, List.set_cons_succ, i64_w, i32_w]
                  rfl
                refine pure_ (i := 6) (N := some 20) (v := ?_) (a' := ?_) #[true, true, true, true, true, true, true, false, false, false, false, false, false, false, false, false] rfl rfl (any_of HT_.out (by kernel_rfl)) (fun _ _ _ h => h) (Or.inl ⟨by rfl, ?_⟩) ?_ ?_
                rotate_left
                · intro w'
                  go_simp
                  with_reducible rfl
                rotate_left
                · simp only [Act.put, List.setIfInBounds_toArray, List.set_cons_zero, List.set_cons_succ, i64_w, i32_w]
                  rfl
                refine pure_ (i := 8) (N := some 22) (v := ?_) (a' := ?_) #[true, true, true, true, true, true, true, false, true, false, false, false, false, false, false, false] rfl rfl (any_of HT_.out (by kernel_rfl)) (fun _ _ _ h => h) (Or.inl ⟨by rfl, ?_⟩) ?_ ?_
                rotate_left
                · intro w'
                  go_simp
                  with_reducible rfl
                rotate_left
                · simp only [Act.put, List.setIfInBounds_toArray, List.set_cons_zero, List.set_cons_succ, i64_w, i32_w]
                  rfl
                refine pure_ (i := 9) (N := some 23) (v := ?_) (a' := ?_) #[true, true, true, true, true, true, true, false, true, true, false, false, false, false, false, false] rfl rfl (any_of HT_.out (by kernel_rfl)) (fun _ _ _ h => h) (Or.inl ⟨by rfl, ?_⟩) ?_ ?_
                rotate_left
                · intro w'
                  go_simp
                  with_reducible rfl
                rotate_left
                · simp only [Act.put, List.setIfInBounds_toArray, List.set_cons_zero, List.set_cons_succ, i64_w, i32_w]
                  rfl
                refine pure_ (i := 10) (N := some 24) (v := ?_) (a' := ?_) #[true, true, true, true, true, true, true, false, true, true, true, false, false, false, false, false] rfl rfl (any_of HT_.out (by kernel_rfl)) (fun _ _ _ h => h) (Or.inl ⟨by rfl, ?_⟩) ?_ ?_
                rotate_left
                · intro w'
                  go_simp
                  with_reducible rfl
                rotate_left
                · simp only [Act.put, List.setIfInBounds_toArray, List.set_cons_zero, List.set_cons_succ, i64_w, i32_w]
                  rfl
                refine take_ (i := 7) (N := some 21) (v := ?_) (a' := ?_) #[true, true, true, true, true, true, true, true, true, true, true, false, false, false, false, false] rfl rfl (take_ofW HT_.out HW_.out (by kernel_rfl)) (fun _ _ _ h => h) (Or.inl ⟨by rfl, ?_⟩) hHeld ?_ ?_
                rotate_left
                · rintro w' ⟨s0, s1⟩
                  go_simp
                  with_reducible rfl
                rotate_left
                · simp only [Act.put, List.setIfInBounds_toArray, List.set_cons_zero, List.set_cons_succ, i64_w, i32_w]
                  rfl
                refine take_ (i := 11) (N := some 25) (v := ?_) (a' := ?_) #[true, true, true, true, true, true, true, true, true, true, true, true, false, false, false, false] rfl rfl (take_ofW HT_.out HW_.out (by kernel_rfl)) (fun _ _ _ h => h) (Or.inl ⟨by rfl, ?_⟩) hHeld ?_ ?_
                rotate_left
                · rintro w' ⟨s0, s1⟩
                  go_simp
                  with_reducible rfl
                rotate_left
                · simp only [Act.put, List.setIfInBounds_toArray, List.set_cons_zero, List.set_cons_succ, i64_w, i32_w]
                  rfl
                refine pure_ (i := 12) (N := some 26) (v := ?_) (a' := ?_) #[true, true, true, true, true, true, true, true, true, true, true, true, true, false, false, false] rfl rfl (any_of HT_.out (by kernel_rfl)) (fun _ _ _ h => h) (Or.inl ⟨by rfl, ?_⟩) ?_ ?_
                rotate_left
                · intro w'
                  go_simp
                  with_reducible rfl
                rotate_left
                · simp only [Act.put, List.setIfInBounds_toArray, List.set_cons_zero, List.set_cons_succ, i64_w, i32_w]
                  rfl
                refine last_ (i := 13) (N := none) #[true, true, true, true, true, true, true, true, true, true, true, true, true, true, false, false] rfl rfl (one_of HT_.out (by kernel_rfl)) (by decide) (fun K hK => ?_)
                refine skip_ (w1 := ?_) (by rfl) rfl ?_ ?_
                rotate_left
                · go_simp
                  rfl
                refine hK.out _ _ ?_
                clear hK K
                refine pure_ (i := 14) (N := some 27) (v := ?_) (a' := ?_) #[true, true, true, true, true, true, true, true, true, true, true, true, true, true, true, false] rfl rfl (any_of HT_.out (by kernel_rfl)) (fun _ _ _ h => h) (Or.inl ⟨by rfl, ?_⟩) ?_ ?_
                rotate_left
                · intro w'
                  go_simp
                  with_reducible rfl
                rotate_left
                · simp only [Act.put, List.setIfInBounds_toArray, List.set_cons_zero, List.set_cons_succ, i64_w, i32_w]
                  rfl
                refine last_ (i := 15) (N := none) #[true, true, true, true, true, true, true, true, true, true, true, true, true, true, true, true] rfl rfl (one_of HT_.out (by kernel_rfl)) (by decide) (fun K hK => ?_)
                refine skip_ (w1 := ?_) (by rfl) rfl ?_ ?_
                rotate_left
                · go_simp
                  rfl
                refine hK.out _ _ ?_
                clear hK K
                refine done_ (done_of HT_.out (by kernel_rfl)) ?_
                try go_wp2
                (try simp only [← hl0_1])
                go_roundg k1
                case measure => have := HK1.out; omega
                case rel => exact ⟨(y111), (wrap64 (x2_1 + 1)), (wrap64 (x3_1 - 1)), (by first | rfl | (simp; done) | (simp [*]; done)), (by first | rfl | (simp; done) | (simp [*]; done)), H', ⟨by have := HK1.out; omega⟩, ⟨by (try simp only [hl0_1]); (with_reducible repeat (first | apply Kd.R_alloc | apply Kd.R_drewN | apply Kd.R_drew)); exact HQ12.out⟩, ⟨by repeat (first | (with_reducible first | exact HK.out | apply Kept.alloc | apply Kept.drewN | apply Kept.drew | refine Kept.setCell ?_ HMgo8.out _ | refine Kept.setCell ?_ HMgo8.out _) | exact HK.out)⟩, ⟨by repeat (first | (with_reducible first | exact HB.out | apply below_alloc | apply pw_below_drewN | apply below_drew1 | refine below_set ?_ GB8.out | refine below_set ?_ GB8.out) | exact HB.out)⟩⟩
              · rw [if_neg c7] at H
                exact absurd H (by simp)
            · rw [if_neg c6] at H
              exact absurd H (by simp)
          · rw [if_neg c5] at H
            exact absurd H (by simp)
        · rw [if_neg c4] at H
          exact absurd H (by simp)
      · rw [if_neg c3] at H
        have c3b0 : decide (x2_1 < x3_1) = false := decide_eq_false c3
        clear c3
        obtain rfl := Option.some.inj H
        go_wp2
        first | go_end0 | ((try simp only [Exit.inBlock, Exit.then]); refine bodyPost_ret (results_none rfl _ _ _) rfl ?_)
        exact ⟨by first | rfl | (simp [errW_none, errW_some] <;> rfl) | (simp [*, errW_none, errW_some] <;> rfl), (by first | exact (by (with_reducible repeat (first | apply Kd.R_alloc | apply Kd.R_drewN | apply Kd.R_drew)); exact HO_0.out) | (simp only [hl0_1]; exact (by (with_reducible repeat (first | apply Kd.R_alloc | apply Kd.R_drewN | apply Kd.R_drew)); exact HO_0.out))), by repeat (first | (with_reducible first | exact HB.out | apply below_alloc | apply pw_below_drewN | apply below_drew1) | exact HB.out), by repeat (first | (with_reducible first | exact HK.out | apply Kept.alloc | apply Kept.drewN | apply Kept.drew) | exact HK.out)⟩

-- NOT PRINTED: function 65 (taint_search_way)

/-! ### cmp_isNaN_int: function 101 -/
def cmp_isNaN_int.f (a0 : Int) : Option (Bool) := some (a0 != a0)
/-! ### cmp_Less_int: function 91 -/
def cmp_Less_int.f (a0 : Int) (a1 : Int) : Option (Bool) := (cmp_isNaN_int.f a0).bind fun t112 => (if t112 = true then ((cmp_isNaN_int.f a1).bind fun t113 => (if t113 = true then (some (decide (a0 < a1))) else (some true))) else (some (decide (a0 < a1))))
end Go.Proofs.Ytfhmepdbbhcncaa.P

namespace Go.Proofs.Ytfhmepdbbhcncaa.P
open Go.RowKit Go.Shelf Go.Proofs.YtfhmepdbbhcncaaW.PrintWords Go.Proofs.YtfhmepdbbhcncaaW.PrintLast Go.Proofs.YtfhmepdbbhcncaaW.PrintMore Go.Proofs.YtfhmepdbbhcncaaM Go.Proofs.YtfhmepdbbhcncaaR
set_option linter.unusedVariables false
set_option linter.unusedSimpArgs false

/-- the way back: by the moves that are noted, from a vessel to the start's -/
def wayL (l : List S58) (home : Int) : Nat → (Int → Option Int) → Int → List Int → Option (List Int)
  | 0, _, _, _ => none
  | k + 1, f, at_, acc =>
    if at_ = home then some acc else
      if 0 ≤ (f at_).getD 0 ∧ (f at_).getD 0 < l.length then wayL l home k (fun x => if x = at_ then none else f x) (rd_T58 l ((f at_).getD 0)).f0 (acc ++ [(f at_).getD 0]) else none

theorem eq111 (a b : Int) (w : World) : (Op.equal 111 (.agg #[.int .i64 a]) (.agg #[.int .i64 b])).run Try.prog w = .ok (a == b) w := by
  exact keyOK.eq a b w

theorem cut_full_27 (A : Option Addr) (n cap : Nat) (h2 : n ≤ cap) (W : World) :
    (Instr.slice 27 (.slice A n cap) none (some (.int .i64 (n : Int))) (some (.int .i64 (n : Int)))).run Try.prog W = .ok (.slice A n n) W := by
  obtain ⟨ti, hi, _, hs, _⟩ := info_parts info3
  have hel : Try.prog.elem 27 = 3 := by simp [Program.elem, Try.underlying27]
  have hu : Try.prog.underlying 27 = some (.slice (Try.prog.elem 27)) := by rw [hel]; exact Try.underlying27
  have ha : (A.map fun x => x.add 0) = A := by cases A <;> simp [Addr.add]
  rw [run_slice_hm W 27 A n cap hu .i64 .i64 n n (by omega) (by omega) (by omega), hel]
  simp [sizeOf, typeInfo, hi, sliced, Result.andThen, ha]

/-- A list that is being made: nothing yet, or a row of its own. -/
def OutV (W : World) (base : Nat) (v : Value) (xs : List Int) : Prop :=
  (xs = [] ∧ v = .slice none 0 0) ∨ (0 < xs.length ∧ ∃ b cap, v = .slice (some ⟨b, 0, none⟩) xs.length cap ∧ base ≤ b ∧ RowC W b 3 cap xs)
theorem OutV.lower {W : World} {base base' : Nat} {v : Value} {xs : List Int} (h : OutV W base v xs) (hb : base' ≤ base) : OutV W base' v xs := by
  rcases h with h | ⟨h, b, cap, e, hb', hr⟩
  · exact .inl h
  · exact .inr ⟨h, b, cap, e, Nat.le_trans hb hb', hr⟩
theorem OutV.kept {W W' : World} {base : Nat} {v : Value} {xs : List Int} {row : Option Nat} (h : OutV W base v xs) (hg : W.grownBy W' row) (hr : ∀ r, row = some r → r < base) : OutV W' base v xs := by
  rcases h with h | ⟨h, b, cap, e, hb', hrow⟩
  · exact .inl h
  · exact .inr ⟨h, b, cap, e, hb', hrow.kept hg (fun e => by have := hr _ e.symm; omega)⟩
theorem OutV.shape {W : World} {base : Nat} {v : Value} {xs : List Int} (h : OutV W base v xs) : ∃ A c, v = .slice A xs.length c ∧ xs.length ≤ c := by
  rcases h with ⟨rfl, rfl⟩ | ⟨h, b, cap, e, hb', hrow⟩
  · exact ⟨none, 0, rfl, Nat.le_refl _⟩
  · exact ⟨_, _, e, hrow.le⟩
theorem OutV.own {W : World} {base : Nat} {v : Value} {xs : List Int} (h : OutV W base v xs) : Kd.R (Kd.int .i64) 3 W base (fun _ => True) v xs := by
  rcases h with ⟨rfl, rfl⟩ | ⟨h, b, cap, rfl, hb', hrow⟩
  · exact Kd.R_nil _ _ _ _ _
  · exact Kd.R_of_own (hrow.own hb') (fun _ _ => trivial)

/-- 'append(out[:len(out):len(out)], x)': always a new row. -/
theorem grow27 {W : World} {base : Nat} {v : Value} {xs : List Int} (h : OutV W base v xs) (hl : xs.length < 1000000) (x : Int) :
    ∃ A c, v = .slice A xs.length c ∧ xs.length ≤ c ∧ ∃ v' w', (∀ ty, (Builtin.append_ #[27, 27] ty #[.slice A xs.length xs.length, .slice (some ⟨W.heap.size, 0, none⟩) 1 1]).run Try.prog (W.alloc (.cells #[.int .i64 x] 3)) = .ok v' w') ∧
      OutV w' W.heap.size v' (xs ++ [x]) ∧ W.grownBy w' none := by
  obtain ⟨ti, hi, hz, hs, hby⟩ := info_parts info3
  have hmx : maxLen = 9223372036854775807 := rfl
  have hga : W.grownBy (W.alloc (.cells #[.int .i64 x] 3)) none := World.grownBy_alloc _ _ _
  have hnew : ∀ j u, [Value.int .i64 x][j]? = some u → (W.alloc (.cells #[.int .i64 x] 3)).cell? ((⟨W.heap.size, 0, none⟩ : Addr).add j) = some u := by
    intro j u hu
    have hc := (Blk.new W #[.int .i64 x] 3).cell j
    rw [Addr.add_lit, Nat.zero_add, hc]
    simpa using hu
  have fin : ∀ v' w', w'.ownsRow (W.alloc (.cells #[.int .i64 x] 3)).heap.size 3 1 v' (xs.length + 1) (xs.map (Value.int .i64) ++ [.int .i64 x]) → OutV w' W.heap.size v' (xs ++ [x]) := by
    intro v' w' ho
    have e : xs.map (Value.int .i64) ++ [.int .i64 x] = (xs ++ [x]).map (Value.int .i64) := by simp
    rw [e] at ho
    obtain ⟨b, cap, rfl, hb, hn, hrow⟩ := RowC.of_own ho (by omega)
    refine .inr ⟨by simp, b, cap, by rw [hn], ?_, hrow⟩
    simp at hb; omega
  rcases h with ⟨rfl, rfl⟩ | ⟨h, b, cap, rfl, hb', hrow⟩
  · refine ⟨none, 0, rfl, Nat.le_refl _, ?_⟩
    have key : ∀ ty, ∃ v' w', (Builtin.append_ #[27, 27] ty #[.slice none 0 0, .slice (some ⟨W.heap.size, 0, none⟩) 1 1]).run Try.prog (W.alloc (.cells #[.int .i64 x] 3)) = .ok v' w' ∧ OutV w' W.heap.size v' ([] ++ [x]) ∧ W.grownBy w' none := by
      intro ty
      obtain ⟨v', w', h1, h2, h3, _⟩ := run_append_own (P := Try.prog) (w := W.alloc (.cells #[.int .i64 x] 3)) (W.alloc (.cells #[.int .i64 x] 3)).heap.size 27 ty 3 ti (.int .i64 0) 1 8 Try.underlying27 hi hz hs hby rfl (by decide) (.slice none 0 0) 0 [] ⟨rfl, .inl ⟨rfl, rfl⟩⟩ ⟨W.heap.size, 0, none⟩ 1 1 [.int .i64 x] rfl hnew (by simp [Value.oneCell']) (by omega) (by omega) (Nat.le_refl _)
      exact ⟨v', w', h1, fin v' w' h2, hga.trans h3⟩
    obtain ⟨v', w', h1, h2, h3⟩ := key 27
    refine ⟨v', w', fun ty => ?_, h2, h3⟩
    exact h1
  · refine ⟨some ⟨b, 0, none⟩, cap, rfl, hrow.le, ?_⟩
    have hrow1 := hrow.kept hga (by simp)
    obtain ⟨v', w', h1, h2, h3⟩ := run_append_arg_grows (P := Try.prog) (W.alloc (.cells #[.int .i64 x] 3)) 27 27 3 ti (.int .i64 0) 1 8 Try.underlying27 hi hz hs hby rfl (by decide) ⟨b, 0, none⟩ xs.length xs.length (xs.map (Value.int .i64)) (by simp)
      (fun j u hu => by
        have hj : j < xs.length := by have := (List.getElem?_eq_some_iff.1 hu).1; simpa using this
        have := hrow1.cell j hj
        rw [List.getElem?_map, List.getElem?_eq_getElem hj] at hu
        simp only [Option.map_some, Option.some.injEq] at hu
        rw [← hu, Addr.add_lit, Nat.zero_add]
        exact this) ⟨W.heap.size, 0, none⟩ 1 1 [.int .i64 x] rfl hnew (by omega) (by omega) (by omega)
    exact ⟨v', w', fun ty => h1, fin v' w' h2, hga.trans h3⟩

/-- An append of which it is known what it does. -/
theorem append_run {P : Program} {ops : Array Oper} {rest : List Oper} {o : Oper} {a : Act} {Q : Exit → Act → World → Prop} {W : World} (hgd : o.guard = none) (s x : Operand) (t : TypeId)
    (hop : o.op = Op.call { callee := Callee.builtin Builtin.append, args := #[s, x], argTypes := #[t, t] }) (vs vx v' : Value) (w' : World) (hs : a.eval s = vs) (hx : a.eval x = vx)
    (hrun : ∀ ty, (Builtin.append_ #[t, t] ty #[vs, vx]).run P W = .ok v' w') (h : wpList P ops Q rest (a.put o.dst v') w') : wpList P ops Q (o :: rest) a W := by
  refine wpList_plain hgd fun K hK' => ?_
  unfold Oper.wp
  simp [execOp, hop, resolve, invoke, builtin, hs, hx, hrun, Result.andThen]
  exact hK' _ _ h
end Go.Proofs.Ytfhmepdbbhcncaa.P

namespace Go.Proofs.Ytfhmepdbbhcncaa.P
open Go.RowKit Go.Shelf Go.Proofs.YtfhmepdbbhcncaaW.PrintWords Go.Proofs.YtfhmepdbbhcncaaW.PrintLast Go.Proofs.YtfhmepdbbhcncaaW.PrintMore Go.Proofs.YtfhmepdbbhcncaaM Go.Proofs.YtfhmepdbbhcncaaR
set_option linter.unusedVariables false
set_option linter.unusedSimpArgs false

def cutW (w : World) (b : Nat) : World := { w with heap := w.heap.extract 0 b }
theorem cutW_below {w : World} {b : Nat} (h : b ≤ w.heap.size) : Below (cutW w b).heap.size (cutW w b) w ∧ (cutW w b).heap.size = b := by
  have e : (cutW w b).heap.size = b := by simp [cutW]; omega
  refine ⟨⟨rfl, rfl, rfl, by omega, fun k hk => ?_⟩, e⟩
  rw [e] at hk
  simp [cutW, Array.getElem?_extract, hk]
  omega

/-- slices.Reverse at a list of one's own. -/
theorem reverse_own {w : World} {base k : Nat} {v : Value} {xs ys : List Int} (h : OutV w base v xs) (hk : slices_Reverse_int_int.f k xs = some ys) (hl : ys.length = xs.length) (hbase : base ≤ w.heap.size) :
    Calls Try.prog 81 #[v] w fun e w' => e = .returned (.tuple #[]) ∧ OutV w' base v ys ∧ (∀ q, q < base → w'.heap[q]? = w.heap[q]?) ∧ w.heap.size ≤ w'.heap.size ∧ w'.os = w.os ∧ w'.tape = w.tape ∧ w'.output = w.output := by
  obtain ⟨hb, hs⟩ := cutW_below hbase
  refine (slices_Reverse_int_int.calls k (fun _ => True) v xs ys (cutW w base) w hb ?_ hk).mono ?_
  · rw [hs]; exact h.own
  · rintro e w' ⟨rfl, hr, hb', hkp⟩
    have hq : ∀ q, q < base → w'.heap[q]? = w.heap[q]? := fun q h1 => (hb'.block q (by omega)).trans (hb.block q (by omega)).symm
    refine ⟨rfl, ?_, hq, hkp.1, hb'.os.trans hb.os.symm, hb'.tape.trans hb.tape.symm, hb'.output.trans hb.output.symm⟩
    rw [hs] at hr
    rcases h with ⟨rfl, rfl⟩ | ⟨h, b, cap, rfl, hb2, hrow⟩
    · left
      exact ⟨List.eq_nil_of_length_eq_zero (by simpa using hl), rfl⟩
    · right
      have ho := Kd.own_of_R hr
      rw [hl] at ho
      obtain ⟨b', cap', e, h1, h2, h3⟩ := RowC.of_own ho h
      injection e with e1 e2 e3
      injection e1 with e1
      injection e1 with e1
      exact ⟨by omega, b', cap', by rw [e1, hl, e3], h1, h3⟩

theorem gmono {w w' : World} (hg : w.grownBy w' none) (row : Option Nat) : w.grownBy w' row := ⟨hg.os, hg.tape, hg.output, hg.size, fun k hk _ => hg.block k hk (by simp)⟩
theorem OutV.far {W : World} {base bA : Nat} {v : Value} {xs : List Int} {cur : Array Value} (h : OutV W base v xs) (hb : Blk W bA 111 cur) (j : Nat) (u : Value) : OutV (W.setCell ⟨bA, j, none⟩ u) base v xs := by
  rcases h with h | ⟨h, b, cap, e, hb', hrow⟩
  · exact .inl h
  · refine .inr ⟨h, b, cap, e, hb', hrow.kept (grown_set W bA j u) (fun he => ?_)⟩
    injection he with he
    obtain ⟨cur', hk, _⟩ := hrow.ex
    rw [he, Blk, show W.heap[bA]? = _ from hb] at hk
    cases hk

/-- Between the rounds of way. -/
structure WayS (w W : World) (B M : Nat) (n : Int) (sl : Value) (sv st : Int) (come : List Int) (f : Int → Option Int) (bA : Nat) (a : Int) (v : Value) (acc : List Int) : Prop where
  S : SAt W B n sl sv st come (.map (some M))
  Mp : ∃ N, MapAt W encK M N (fun k => (f k).map (Value.int .i64))
  H : Blk W w.heap.size 111 #[.int .i64 sv]
  A : Blk W bA 111 #[.int .i64 a]
  hA : w.heap.size < bA
  O : OutV W w.heap.size v acc
  g : w.grownBy W (some M)
theorem WayS.kept {w W W' : World} {B M : Nat} {n : Int} {sl : Value} {sv st : Int} {come : List Int} {f : Int → Option Int} {bA : Nat} {a : Int} {v : Value} {acc : List Int}
    (h : WayS w W B M n sl sv st come f bA a v acc) (hg : W.grownBy W' none) : WayS w W' B M n sl sv st come f bA a v acc := by
  obtain ⟨N, hN⟩ := h.Mp
  exact ⟨h.S.kept hg (by simp), ⟨N, hN.move (hg.block M hN.lt (by simp))⟩, h.H.kept hg (by simp), h.A.kept hg (by simp), h.hA, h.O.kept hg (fun r e => by cases e), h.g.trans (gmono hg _)⟩

theorem WayS.deleted {w W W' : World} {B M N : Nat} {n : Int} {sl : Value} {sv st : Int} {come : List Int} {f f2 : Int → Option Int} {fv : Int → Option Value} {bA : Nat} {a : Int} {v : Value} {acc : List Int}
    (h : WayS w W B M n sl sv st come f bA a v acc) (hBM : B ≠ M) (hM : M < w.heap.size) (hg : W.grownBy W' (some M)) (hm : MapAt W' encK M N fv) (hf : ∀ k, fv k = (f2 k).map (Value.int .i64)) : WayS w W' B M n sl sv st come f2 bA a v acc := by
  have hA := h.hA
  exact ⟨h.S.kept hg (by simpa using hBM), ⟨N, (funext hf : fv = fun k => (f2 k).map (Value.int .i64)) ▸ hm⟩, h.H.kept hg (by simp; omega), h.A.kept hg (by simp; omega), h.hA, h.O.kept hg (fun r e => by cases e; exact hM), h.g.trans hg⟩
theorem WayS.on {w W W' : World} {B M : Nat} {n : Int} {sl : Value} {sv st : Int} {come : List Int} {f : Int → Option Int} {bA : Nat} {a a2 : Int} {v v2 : Value} {acc acc2 : List Int}
    (h : WayS w W B M n sl sv st come f bA a v acc) (hB : B < w.heap.size) (hM : M < w.heap.size) (hg : W.grownBy W' none) (ho : OutV W' w.heap.size v2 acc2) :
    WayS w ((W'.setCell ⟨bA, 0, none⟩ (.int .i64 a2)).alloc (.cells #[.int .i64 a2] 111)) B M n sl sv st come f W'.heap.size a2 v2 acc2 := by
  have hA := h.hA
  obtain ⟨N, hN⟩ := h.Mp
  have hgs : W'.grownBy (W'.setCell ⟨bA, 0, none⟩ (.int .i64 a2)) (some bA) := grown_set W' bA 0 _
  have hga : (W'.setCell ⟨bA, 0, none⟩ (.int .i64 a2)).grownBy ((W'.setCell ⟨bA, 0, none⟩ (.int .i64 a2)).alloc (.cells #[.int .i64 a2] 111)) none := World.grownBy_alloc _ _ _
  have hne : ∀ k, k < W.heap.size → k ≠ bA → ((W'.setCell ⟨bA, 0, none⟩ (.int .i64 a2)).alloc (.cells #[.int .i64 a2] 111)).heap[k]? = W.heap[k]? := fun k h1 h2 =>
    (hga.block k (by have := hgs.size; have := hg.size; omega) (by simp)).trans ((hgs.block k (by have := hg.size; omega) (by simpa using h2)).trans (hg.block k h1 (by simp)))
  have hsz : w.heap.size ≤ W.heap.size := h.g.size
  have hAl := h.A.lt
  have hn := Blk.new (W'.setCell ⟨bA, 0, none⟩ (.int .i64 a2)) #[.int .i64 a2] 111
  have hs2 : (W'.setCell ⟨bA, 0, none⟩ (.int .i64 a2)).heap.size = W'.heap.size := by simp
  rw [hs2] at hn
  refine ⟨((h.S.kept hg (by simp)).kept hgs (by simp; omega)).kept hga (by simp), ⟨N, hN.move (hne M hN.lt (by omega))⟩, ((h.H.kept hg (by simp)).kept hgs (by simp; omega)).kept hga (by simp), hn, by have := hg.size; omega, (ho.far (h.A.kept hg (by simp)) 0 _).kept hga (fun r e => by cases e), ?_⟩
  have hs3 : W'.heap.size ≤ ((W'.setCell ⟨bA, 0, none⟩ (.int .i64 a2)).alloc (.cells #[.int .i64 a2] 111)).heap.size := by simp
  refine ⟨hga.os.trans (hgs.os.trans (hg.os.trans h.g.os)), hga.tape.trans (hgs.tape.trans (hg.tape.trans h.g.tape)), hga.output.trans (hgs.output.trans (hg.output.trans h.g.output)), Nat.le_trans h.g.size (Nat.le_trans hg.size hs3), fun k hk hne' => ?_⟩
  exact (hne k (by omega) (by omega)).trans (h.g.block k hk hne')

set_option maxHeartbeats 4000000 in
set_option maxRecDepth 100000 in
theorem way_calls (B M N : Nat) (n : Int) (A : Option Addr) (c : Nat) (l : List S58) (sv st : Int) (come : List Int) (f : Int → Option Int) (v : Int) (r : List Int) (w0 w : World) (fuel kr : Nat)
    (hS : SAt w B n (.slice A l.length c) sv st come (.map (some M))) (hM : MapAt w encK M N (fun k => (f k).map (Value.int .i64))) (hBM : B ≠ M)
    (hr : Kd.C k58 w0 A l.length l) (hw0 : w0.heap.size ≤ w.heap.size) (hkeep : ∀ k, k < w0.heap.size → w.heap[k]? = w0.heap[k]?) (hMge : w0.heap.size ≤ M)
    (hf : fuel ≤ 1000) (hway : wayL l sv fuel f v [] = some r) (hrev : slices_Reverse_int_int.f kr r = some r.reverse) :
    Calls Try.prog 65 #[.pointer (some ⟨B, 0, none⟩), .int .i64 v] w fun e w' => ∃ vo, e = .returned vo ∧ OutV w' w.heap.size vo r.reverse ∧ w.grownBy w' (some M) := by
  have hWS : ∀ W, W = (w.alloc (.cells #[.int .i64 sv] 111)).alloc (.cells #[.int .i64 v] 111) → WayS w W B M n (.slice A l.length c) sv st come f (w.heap.size + 1) v (.slice none 0 0) [] := by
    rintro _ rfl
    have b1 := Blk.new w #[.int .i64 sv] 111
    have b2 := Blk.new (w.alloc (.cells #[.int .i64 sv] 111)) #[.int .i64 v] 111
    simp only [World.size_alloc] at b2
    have g0 : w.grownBy ((w.alloc (.cells #[.int .i64 sv] 111)).alloc (.cells #[.int .i64 v] 111)) none := (World.grownBy_alloc _ _ _).trans (World.grownBy_alloc _ _ _)
    exact ⟨hS.kept g0 (by simp), ⟨N, hM.move (g0.block M hM.lt (by simp))⟩, b1.alloc _, b2, by omega, .inl ⟨rfl, rfl⟩, gmono g0 _⟩
  have HWS := Aside0.mk hWS
  clear hWS
  have HS := Aside0.mk hS
  have HM := Aside0.mk hM
  have HR := Aside0.mk hr
  have HKEEP := Aside0.mk hkeep
  have HWAY := Aside0.mk hway
  have HREV := Aside0.mk hrev
  have q2 := hS.c2
  have hle := hr.2.1
  have hMlt := hM.lt
  have hBlt := hS.lt
  clear hS hM hr hkeep hway hrev
  go_enter Try.func65, Try.ntmps65
  go_wp2_with fail
  go_step3
  go_wp2_with fail
  go_step3
  go_wp2_with fail
  go_loopg [5, 7] fuel (fun kq v5 v7 w' => ∃ (bA : Nat) (a : Int) (f' : Int → Option Int) (acc : List Int), v7 = .pointer (some ⟨bA, 0, none⟩) ∧ Aside0 (WayS w w' B M n (.slice A l.length c) sv st come f' bA a v5 acc) ∧ Aside0 (wayL l sv kq f' a acc = some r) ∧ Aside0 (acc.length + kq ≤ 1000))
  case atStart => exact ⟨_, v, f, [], rfl, ⟨HWS.out _ rfl⟩, HWAY, ⟨by simpa using hf⟩⟩
  case round =>
    obtain ⟨bA, a, f', acc, rfl, HW, HT, HL⟩ := hrel
    cases gk with
    | zero => have := HT.out; simp [wayL] at this
    | succ k1 =>
      have ch : wr.cell? ⟨w.heap.size, 0, none⟩ = some (.int .i64 sv) := HW.out.H.cell 0
      have ca : wr.cell? ⟨bA, 0, none⟩ = some (.int .i64 a) := HW.out.A.cell 0
      by_cases ha : a = sv
      · have hq : (a == sv) = true := by simp [ha]
        have he := eq111 a sv
        rw [hq] at he
        have HA := Lib.hid ha
        clear ha
        have hacc : acc = r := by have := HT.out; simp only [wayL, if_pos HA.out, Option.some.injEq] at this; exact this
        subst hacc
        go_wp2_with (go_at_call 81; refine (reverse_own HW.out.O HREV.out (by simp) HW.out.g.size).mono ?_; rintro e W1 ⟨rfl, ho, hq1, hs1, ho1, ht1, hu1⟩; have HO1 := Lib.hid ho; have HQ1 := Lib.hid hq1; clear ho hq1)
        rw [Exit.noGoto_ret]
        go_ret
        have hg := HW.out.g
        exact ⟨u5, rfl, HO1.out, ⟨ho1.trans hg.os, ht1.trans hg.tape, hu1.trans hg.output, Nat.le_trans hg.size hs1, fun k hk hne => (HQ1.out k hk).trans (hg.block k hk hne)⟩⟩
      · have hq : (a == sv) = false := by simp [ha]
        have he := eq111 a sv
        rw [hq] at he
        obtain ⟨i, hi⟩ : ∃ i, (f' a).getD 0 = i := ⟨_, rfl⟩
        have HT1 := HT.out
        rw [wayL, if_neg ha, hi] at HT1
        clear ha
        have hin : 0 ≤ i ∧ i < l.length := by
          rcases Classical.em (0 ≤ i ∧ i < l.length) with h | h
          · exact h
          · rw [if_neg h] at HT1; cases HT1
        rw [if_pos hin] at HT1
        have HT2 := Lib.hid HT1
        clear HT1 HT
        have cm0 := HW.out.S.cmap
        have hlk : ∀ q, (Instr.lookup 94 (.map (some M)) (.agg #[.int .i64 a]) false).run Try.prog (wr.drewN q) = .ok (.int .i64 i) (wr.drewN q) := by
          intro q
          obtain ⟨N', hN'⟩ := HW.out.Mp
          have := (hN'.move (w' := wr.drewN q) rfl).lookup keyOK Try.underlying94 (z := .int .i64 0) (fun w => by kernel_rfl) a false
          refine this.trans ?_
          rw [← hi]
          cases f' a <;> rfl
        go_upto_region 5 with (fail)
        go_quiet (fail)
        clear hlk cm0 ch ca he
        have HW1 := HW.out.kept (grown_of_below (below_dN (Below.refl wr.heap.size wr) nq) none)
        go_upto_region 6 with (fail)
        generalize wr.drewN nq = W1 at *
        obtain ⟨W1d, e1⟩ : ∃ W1d, W1.drew = W1d := ⟨_, rfl⟩
        have HW2 : WayS w W1d B M n (.slice A l.length c) sv st come f' bA a u5 acc := by rw [← e1]; exact HW1.kept (grown_of_below (below_drew (Below.refl W1.heap.size W1)) none)
        clear HW HW1
        have cm0 := HW2.S.cmap
        have ca : W1d.cell? ⟨bA, 0, none⟩ = some (.int .i64 a) := HW2.A.cell 0
        obtain ⟨N2, hN2⟩ := HW2.Mp
        obtain ⟨W2, hdel, hM2, hg2⟩ := hN2.delete keyOK Try.underlying94 (ty := 0) a #[94, 111] rfl
        have hdel' : ∀ ty, (Builtin.delete_ #[94, 111] ty #[.map (some M), .agg #[.int .i64 a]]).run Try.prog W1d = .ok (.tuple #[]) W2 := fun ty => hdel
        refine wp_region_still_tail 5 (by kernel_rfl) (by kernel_rfl) ?_
        simp only [List.take_succ_cons, List.take_zero, List.drop_succ_cons, List.drop_zero]
        generalize hzz : ({ heap := W1.heap, tape := W1.tape, drawn := W1.drawn + 1, os := W1.os, output := W1.output } : World) = Wz
        have hz1 : Wz = W1d := hzz.symm.trans e1
        subst hz1
        clear hzz
        repeat still_step
        refine wpStill_nil ?_
        go_upto_region 7 with (fail)
        have HW3 := HW2.deleted hBM hMlt hg2 hM2 (f2 := fun x => if x = a then none else f' x) (fun k => by split <;> rfl)
        clear hdel' hdel hM2 hN2 cm0 ca HW2 e1
        have hmx := HL.out
        obtain ⟨A', c', rfl, hc', v', W4, hap, hov, hg4⟩ := grow27 HW3.O (by omega) i
        have hcut := cut_full_27 A' acc.length c' hc'
        go_upto_region 8 with ((with_reducible refine gate_builtin (b := .append) (xs := #[.tmp 36, .tmp 38]) rfl ?_); at_builtin; refine append_run rfl (.tmp 36) (.tmp 38) 27 rfl _ _ v' W4 rfl rfl hap ?_)
        have hC : Kd.C k58 W4 A l.length l := hp58.C (fun q hq => (hg4.block q (by have := HW3.g.size; omega) (by simp)).trans ((HW3.g.block q (by omega) (by simp; omega)).trans (HKEEP.out q hq))) HR.out
        obtain ⟨ad, e0, hc0, hc1, hc2, hc3⟩ := at_T58 hC i hin.1 hin.2
        cases e0
        have b1 := (HW3.S.kept hg4 (by simp)).c1
        have ba := (HW3.A.kept hg4 (by simp)).cell 0
        have baf := (HW3.A.kept hg4 (by simp)).fz 0
        have HW5 := Lib.hid (HW3.on hBlt hMlt hg4 (hov.lower (HW3.g.size)) (a2 := (rd_T58 l i).f0))
        clear hC hap hcut HW3 hov hc1 hc2 hc3
        have hi1 := hin.1
        have hi2 := hin.2
        have hi3 : i.toNat < l.length := by omega
        go_wp2_with fail
        go_roundg k1
        case rel => exact ⟨W4.heap.size, (rd_T58 l i).f0, fun x => if x = a then none else f' x, acc ++ [i], rfl, ⟨HW5.out⟩, ⟨HT2.out⟩, ⟨by simp; omega⟩⟩
        case measure => omega
end Go.Proofs.Ytfhmepdbbhcncaa.P

namespace Go.Proofs.Ytfhmepdbbhcncaa.P
open Go.RowKit Go.Shelf Go.Proofs.YtfhmepdbbhcncaaW.PrintWords Go.Proofs.YtfhmepdbbhcncaaW.PrintLast Go.Proofs.YtfhmepdbbhcncaaW.PrintMore Go.Proofs.YtfhmepdbbhcncaaM Go.Proofs.YtfhmepdbbhcncaaR
set_option linter.unusedVariables false
set_option linter.unusedSimpArgs false

theorem opened (w1 : World) (n : Int) (s : Value) (sv st : Int) : SAt (w1.alloc (.cells (searchCells n s sv st) 96)) w1.heap.size n s sv st (List.replicate 20 0) (.map none) :=
  ⟨Blk.new w1 (searchCells n s sv st) 96, by simp⟩

/-- what open has looked at -/
structure YardOK (n : Int) (l : List S58) : Prop where
  n1 : 1 ≤ n
  n2 : n ≤ 20
  len : l.length ≤ 40
  mv : ∀ m ∈ l, 0 ≤ m.f0 ∧ m.f0 < n ∧ 0 ≤ m.f1 ∧ m.f1 < n ∧ m.f0 ≠ m.f1 ∧ 0 ≤ m.f2.f0 ∧ m.f2.f0 ≤ m.f2.f1 ∧ m.f2.f1 ≤ 100000
theorem yardOK {n : Int} {l : List S58} (h : checkYard n l = 0) : YardOK n l := by
  unfold checkYard at h
  split at h
  · cases h
  · split at h
    · cases h
    · split at h
      · cases h
      · rename_i h1 h2 h3
        refine ⟨by omega, by omega, by omega, fun m hm => ?_⟩
        have hb : badMove n m = false := by
          cases hbm : badMove n m with
          | false => rfl
          | true => exact absurd (List.any_eq_true.2 ⟨m, hm, hbm⟩) h3
        simp [badMove, withinB] at hb
        omega
theorem openOK {n : Int} {l : List S58} {sv st : Int} {vs : List Int} (h : openE n l sv st vs = 0) : YardOK n l ∧ 0 ≤ sv ∧ sv < n ∧ 0 ≤ st ∧ st ≤ 100000 ∧ ∀ v ∈ vs, 0 ≤ v ∧ v < n := by
  unfold openE at h
  split at h
  · rename_i h1; exact absurd h h1
  · rename_i h0
    split at h
    · cases h
    · rename_i h1
      split at h
      · cases h
      · rename_i h2
        simp [isV, withinB] at h1 h2
        exact ⟨yardOK (by simpa using h0), by omega, by omega, by omega, by omega, fun v hv => by have := h2 v hv; omega⟩

def soonF (t : Int) (m : S58) : Int × Bool := (max t m.f2.f0, decide (t ≤ m.f2.f1))
def sureF (t : Int) (m : S58) : Int × Bool := (m.f2.f1, decide (t ≤ m.f2.f0))

/-- run, by soonest or surest and any, behind open. -/
theorem run_any (step : Int → S58 → Int × Bool) (gs : Nat) (hgs : (gs = 55 ∧ step = soonF) ∨ (gs = 56 ∧ step = sureF)) (n : Int) (A : Option Addr) (c : Nat) (l : List S58) (sv st : Int) (cm0 : List Int) (m0 : Value) (B : Nat) (w0 w : World)
    (hS : SAt w B n (.slice A l.length c) sv st cm0 m0) (hy : YardOK n l) (hsv : 0 ≤ sv) (hsv2 : sv < n) (hr : Kd.C k58 w0 A l.length l) (hw0 : w0.heap.size ≤ B) (hkeep : ∀ k, k < w0.heap.size → w.heap[k]? = w0.heap[k]?) :
    Calls Try.prog 61 #[.pointer (some ⟨B, 0, none⟩), .func (.func gs) #[] #[], .func (.func 62) #[.pointer (some ⟨B, 0, none⟩)] #[]] w (RunPost B n (.slice A l.length c) sv st w (runC step (fun _ => true) n l sv st)) := by
  refine run_calls B n A c l sv st cm0 m0 gs 62 #[.pointer (some ⟨B, 0, none⟩)] #[] step (fun _ => true) w0 w hS hy.n1 hy.n2 hsv hsv2 (fun m hm => ⟨(hy.mv m hm).2.2.1, (hy.mv m hm).2.2.2.1⟩) hr hw0 hkeep ?_ (enters_of Try.func62 (by kernel_rfl) rfl) ?_ (fun W m _ => any_calls _ m W)
  · rcases hgs with ⟨rfl, _⟩ | ⟨rfl, _⟩
    · exact enters_of Try.func55 (by kernel_rfl) rfl
    · exact enters_of Try.func56 (by kernel_rfl) rfl
  · intro W t m
    rcases hgs with ⟨rfl, rfl⟩ | ⟨rfl, rfl⟩
    · exact soonest_calls t m W
    · exact surest_calls t m W

theorem runL_len (step : Int → S58 → Int × Bool) (may : S58 → Bool) (l : List S58) : ∀ (k : Nat) (left : List Int) (s : List Int × (Int → Option Int)), (runL step may l k left s).1.length = s.1.length
  | 0, _, _ => rfl
  | k + 1, left, s => by
    have hb : ∀ (v : Int) (x : Int × S58) (s : List Int × (Int → Option Int)), (bodyF step may v s x).1.length = s.1.length := by
      intro v x s; unfold bodyF; split <;> simp
    have hf : ∀ (v : Int) (xs : List (Int × S58)) (s : List Int × (Int → Option Int)), (xs.foldl (bodyF step may v) s).1.length = s.1.length := by
      intro v xs
      induction xs with
      | nil => intro s; rfl
      | cons x xs ih => intro s; rw [List.foldl_cons, ih, hb]
    rw [runL]
    split
    · rfl
    · simp only []
      split
      · rfl
      · rw [runL_len, hf]
theorem runC_len (step : Int → S58 → Int × Bool) (may : S58 → Bool) (n : Int) (l : List S58) (sv st : Int) : (runC step may n l sv st).1.length = 20 := by
  unfold runC; rw [runL_len]; simp [come0]

set_option maxHeartbeats 1000000 in
set_option maxRecDepth 100000 in
/-- slices.Clone at numbers that lie in a row. -/
theorem clone63 (b off c : Nat) (zs : List Int) (w : World) (hn : 0 < zs.length) (hn2 : zs.length ≤ 1000) (hc : ∀ j (h : j < zs.length), w.cell? ⟨b, off + j, none⟩ = some (.int .i64 zs[j])) :
    Calls Try.prog 63 #[.slice (some ⟨b, off, none⟩) zs.length c] w fun e w' => ∃ b' cap, e = .returned (.slice (some ⟨b', 0, none⟩) zs.length cap) ∧ w.heap.size ≤ b' ∧ RowC w' b' 2 cap zs ∧ Below w.heap.size w w' := by
  have hap : ∃ v' w', (∀ ty, (Builtin.append_ #[28, 28] ty #[.slice (some ⟨w.heap.size, 0, none⟩) 0 0, .slice (some ⟨b, off, none⟩) zs.length c]).run Try.prog (w.alloc (.cells #[] 2)) = .ok v' w') ∧
      w'.ownsRow (w.alloc (.cells #[] 2)).heap.size 2 1 v' (0 + zs.length) ([] ++ zs.map (Value.int .i64)) ∧ (w.alloc (.cells #[] 2)).grownBy w' none := by
    obtain ⟨ti, hi, hz, hs, hby⟩ := info_parts info2
    have hmx : maxLen = 9223372036854775807 := rfl
    obtain ⟨v', w', h1, h2, h3⟩ := run_append_arg_grows (P := Try.prog) (w.alloc (.cells #[] 2)) 28 28 2 ti (.int .i64 0) 1 8 Try.underlying28 hi hz hs hby rfl (by decide) ⟨w.heap.size, 0, none⟩ 0 0 [] rfl (fun j u hu => by simp at hu) ⟨b, off, none⟩ zs.length c (zs.map (Value.int .i64)) (by simp)
      (fun j u hu => by
        have hj : j < zs.length := by have := (List.getElem?_eq_some_iff.1 hu).1; simpa using this
        have h4 : (w.alloc (.cells #[] 2)).cell? ⟨b, off + j, none⟩ = some (.int .i64 zs[j]) := cell_in ((Below.refl w.heap.size w).alloc (Nat.le_refl _) (.cells #[] 2)) (hc j hj)
        rw [List.getElem?_map, List.getElem?_eq_getElem hj] at hu
        simp only [Option.map_some, Option.some.injEq] at hu
        rw [← hu, Addr.add_lit]
        exact h4) (by omega) (by omega) (by omega)
    exact ⟨v', w', fun ty => h1, h2, h3⟩
  obtain ⟨v', w', hap, ho, hg⟩ := hap
  have HO := Lib.hid ho
  have HG := Lib.hid hg
  clear ho hg
  have heq : ∀ W, (binOp .eql 28 (.slice (some ⟨b, off, none⟩) zs.length c) (.slice none 0 0)).run Try.prog W = .ok (.bool false) W := fun W => by kernel_rfl
  go_enter Try.func63, Try.ntmps63
  go_wp2_with ((with_reducible refine gate_builtin (b := .append) (xs := #[.tmp 5, .tmp 6]) rfl ?_); at_builtin; refine append_run rfl (.tmp 5) (.tmp 6) 28 rfl _ _ v' w' rfl rfl hap ?_)
  go_ret
  have ho := HO.out
  rw [List.nil_append, Nat.zero_add] at ho
  obtain ⟨b', cap, rfl, hb, hl, hrow⟩ := RowC.of_own ho hn
  have hg := HG.out
  refine ⟨b', cap, rfl, by simp at hb; omega, hrow, ⟨hg.os, hg.tape, hg.output, ?_, fun k hk => ?_⟩⟩
  · have := hg.size; simp at this; omega
  · exact (hg.block k (by simp; omega) (by simp)).trans ((World.grownBy_alloc w (.cells #[] 2) none).block k hk (by simp))
end Go.Proofs.Ytfhmepdbbhcncaa.P

namespace Go.Proofs.Ytfhmepdbbhcncaa.P
open Go.RowKit Go.Shelf Go.Proofs.YtfhmepdbbhcncaaW.PrintWords Go.Proofs.YtfhmepdbbhcncaaW.PrintLast Go.Proofs.YtfhmepdbbhcncaaW.PrintMore Go.Proofs.YtfhmepdbbhcncaaM Go.Proofs.YtfhmepdbbhcncaaR
set_option linter.unusedVariables false
set_option linter.unusedSimpArgs false

theorem C_nil (w : World) : Kd.C (Kd.int .i64) w none 0 [] := (Kd.R_reads' (Kd.R_nil (Kd.int .i64) 3 w 0 (fun _ => True))).2.2

def arrL (n : Int) (l : List S58) (sv st : Int) : List Int := if openE n l sv st [] = 0 then (runC soonF (fun _ => true) n l sv st).1.take n.toNat else []

theorem below_grown {w W W' : World} {row : Option Nat} (h : Below w.heap.size w W) (hg : W.grownBy W' row) (hr : ∀ r, row = some r → w.heap.size ≤ r) : Below w.heap.size w W' :=
  ⟨hg.os.trans h.os, hg.tape.trans h.tape, hg.output.trans h.output, Nat.le_trans h.size hg.size, fun k hk => (hg.block k (Nat.lt_of_lt_of_le hk h.size) (fun e => by have := hr _ e.symm; omega)).trans (h.block k hk)⟩

set_option maxHeartbeats 4000000 in
set_option maxRecDepth 100000 in
theorem arrivals_calls (n : Int) (A : Option Addr) (c : Nat) (l : List S58) (sv st : Int) (w : World) (hr : Kd.C k58 w A l.length l) :
    Calls Try.prog 22 #[.agg #[.int .i64 n, .slice A l.length c], .agg #[.int .i64 sv, .int .i64 st]] w fun e w' => ∃ v0, e = .returned (.tuple #[v0, .int .i64 (openE n l sv st [])]) ∧ Kd.R (Kd.int .i64) 2 w' w.heap.size (fun _ => True) v0 (arrL n l sv st) ∧ Below w.heap.size w w' := by
  have hbx := boxes2 w (.cells #[.int .i64 n, .slice A l.length c] 24) (.cells #[.int .i64 sv, .int .i64 st] 26)
  have hrx := Kd.C_below hr hbx
  have HR := Lib.hid hr
  clear hr
  rcases Classical.em (openE n l sv st [] = 0) with hE | hE
  · have HO := Lib.hid (open_ok n A c l sv st none 0 [] ((w.alloc (.cells #[.int .i64 n, .slice A l.length c] 24)).alloc (.cells #[.int .i64 sv, .int .i64 st] 26)) hrx (C_nil _) hE)
    have HE := Lib.hid hE
    have HX := Lib.hid hbx
    have B0 : Blk ((w.alloc (.cells #[.int .i64 n, .slice A l.length c] 24)).alloc (.cells #[.int .i64 sv, .int .i64 st] 26)) w.heap.size 24 #[.int .i64 n, .slice A l.length c] := (Blk.new w _ 24).alloc _
    have hsz : ((w.alloc (.cells #[.int .i64 n, .slice A l.length c] 24)).alloc (.cells #[.int .i64 sv, .int .i64 st] 26)).heap.size = w.heap.size + 2 := by simp
    have HB0 := Lib.hid B0
    have HSZ := Lib.hid hsz
    clear hE hbx hrx B0 hsz
    go_enter Try.func22, Try.ntmps22
    go_upto_region 4 with (go_at_call 52; refine (HO.out).mono ?_; rintro e w' ⟨w1, hb1, rfl, rfl⟩; have HB1 := Lib.hid hb1; clear hb1)
    obtain ⟨hy, hsv, hsv2, hst, hst2, _⟩ := openOK HE.out
    have hsz1 : w.heap.size + 2 ≤ w1.heap.size := by have := HB1.out.size; rw [HSZ.out] at this; exact this
    have hb2 : Below (w.heap.size + 2) ((w.alloc (.cells #[.int .i64 n, .slice A l.length c] 24)).alloc (.cells #[.int .i64 sv, .int .i64 st] 26)) (w1.alloc (.cells (searchCells n (.slice A l.length c) sv st) 96)) := by rw [← HSZ.out]; exact HB1.out.alloc HB1.out.size _
    have HB2 := Lib.hid hb2
    have B1 := HB0.out.below hb2 (by omega)
    have hB : Below w.heap.size w (w1.alloc (.cells (searchCells n (.slice A l.length c) sv st) 96)) := HX.out.trans (hb2.mono (by omega))
    have HS := opened w1 n (.slice A l.length c) sv st
    have HRUN := Lib.hid (run_any soonF 55 (.inl ⟨rfl, rfl⟩) n A c l sv st _ _ w1.heap.size w _ HS hy hsv hsv2 HR.out (by omega) hB.block)
    generalize w1.alloc (.cells (searchCells n (.slice A l.length c) sv st) 96) = W1 at *
    have HY := Lib.hid hy
    have HB1' := Lib.hid B1
    have HBB := Lib.hid hB
    have hBlt := HS.lt
    clear hb2 B1 hB HS hy
    go_upto_region 5 with (go_at_call 61; refine (HRUN.out).mono ?_; rintro e W2 ⟨M, N, ⟨ve, rfl⟩, hS2, hM2, hg2, hM⟩; have HS2 := Lib.hid hS2; have HG2 := Lib.hid hg2; clear hS2 hM2 hg2)
    obtain ⟨W2d, e2⟩ : ∃ W2d, W2.drew = W2d := ⟨_, rfl⟩
    have g2 : W2.grownBy W2d none := by rw [← e2]; exact grown_of_below (below_drew (Below.refl W2.heap.size W2)) none
    have HS3 := HS2.out.kept g2 (by simp)
    have HB3 := (HB1'.out.kept HG2.out (by simp; omega)).kept g2 (by simp)
    have hcn : W2d.cell? ⟨w.heap.size, 0, none⟩ = some (.int .i64 n) := HB3.cell 0
    have hn1 := HY.out.n1
    have hn2 := HY.out.n2
    have hn0 : 0 ≤ n := by omega
    refine wp_region_still_tail 6 (by kernel_rfl) (by kernel_rfl) ?_
    simp only [List.take_succ_cons, List.take_zero, List.drop_succ_cons, List.drop_zero]
    generalize hzz : ({ heap := W2.heap, tape := W2.tape, drawn := W2.drawn + 1, os := W2.os, output := W2.output } : World) = Wz
    have hz1 : Wz = W2d := hzz.symm.trans e2
    subst hz1
    clear hzz
    repeat still_step
    refine wpStill_nil ?_
    have hlen : ((runC soonF (fun _ => true) n l sv st).1.take n.toNat).length = n.toNat := by rw [List.length_take, runC_len]; omega
    have hcl := clone63 w1.heap.size 4 20 ((runC soonF (fun _ => true) n l sv st).1.take n.toNat) Wz (by omega) (by omega) (fun j hj => by
      have h1 := HS3.cm j (by omega)
      rw [List.getD_eq_getElem?_getD, List.getElem?_eq_getElem (by rw [runC_len]; omega)] at h1
      rw [List.getElem_take]
      exact h1)
    rw [hlen] at hcl
    have HCL := Lib.hid hcl
    clear hcl
    go_wp2_with (go_at_call 63; refine (HCL.out).mono ?_; rintro e W4 ⟨b', cap, rfl, hb', hrow, hb4⟩; have HROW := Lib.hid hrow; have HB4 := Lib.hid hb4; clear hrow hb4)
    go_ret2
    have hw2 : Below w.heap.size w Wz := below_grown (below_grown HBB.out HG2.out (fun r e => by cases e; omega)) g2 (fun r e => by cases e)
    refine ⟨.slice (some ⟨b', 0, none⟩) n.toNat cap, by rw [HE.out]; rfl, ?_, below_then hw2 hw2.size HB4.out⟩
    rw [arrL, if_pos HE.out]
    have ho := HROW.out.own (base := w.heap.size) (Nat.le_trans hw2.size hb')
    generalize (runC soonF (fun _ => true) n l sv st).1.take n.toNat = zs at ho hlen ⊢
    rw [← hlen]
    exact Kd.R_of_own ho (fun _ _ => trivial)
  · have HO := Lib.hid (open_bad n A c l sv st none 0 [] ((w.alloc (.cells #[.int .i64 n, .slice A l.length c] 24)).alloc (.cells #[.int .i64 sv, .int .i64 st] 26)) hrx (C_nil _) hE)
    obtain ⟨ev, hev⟩ : ∃ ev, openE n l sv st [] = ev := ⟨_, rfl⟩
    rw [hev] at HO hE
    have HEV := Lib.hid hev
    have hne : (ev != 0) = true := by simp [hE]
    have HE := Lib.hid hE
    have HX := Lib.hid hbx
    clear hev hE hbx hrx
    go_enter Try.func22, Try.ntmps22
    go_wp2_with (go_at_call 52; refine (HO.out).mono ?_; rintro e w' ⟨rfl, hb1⟩; have HB1 := Lib.hid hb1; clear hb1)
    go_ret2
    refine ⟨.slice none 0 0, by rw [HEV.out]; rfl, ?_, later2 HB1.out⟩
    rw [arrL, HEV.out, if_neg HE.out]; exact Kd.R_nil _ _ _ _ _
end Go.Proofs.Ytfhmepdbbhcncaa.P

namespace Go.Proofs.Ytfhmepdbbhcncaa.P
open Go.RowKit Go.Shelf Go.Proofs.YtfhmepdbbhcncaaW.PrintWords Go.Proofs.YtfhmepdbbhcncaaW.PrintLast Go.Proofs.YtfhmepdbbhcncaaW.PrintMore Go.Proofs.YtfhmepdbbhcncaaM Go.Proofs.YtfhmepdbbhcncaaR
set_option linter.unusedVariables false
set_option linter.unusedSimpArgs false

def sureT (come : List Int) : Nat → List Int
  | 0 => []
  | k + 1 => if come.getD k 0 = 1048576 then sureT come k else sureT come k ++ [(k : Int)]
theorem sureT_len (come : List Int) : ∀ k, (sureT come k).length ≤ k
  | 0 => Nat.le_refl _
  | k + 1 => by
    have := sureT_len come k
    rw [sureT]; split <;> simp <;> omega
def sureL (n : Int) (l : List S58) (sv st : Int) : List Int := if openE n l sv st [] = 0 then sureT (runC sureF (fun _ => true) n l sv st).1 n.toNat else []
def carT (come : List Int) (l : List S58) : Nat → List Int
  | 0 => []
  | k + 1 => if come.getD (l.getD k z58).f0.toNat 0 ≤ (l.getD k z58).f2.f1 then carT come l k ++ [(k : Int)] else carT come l k
theorem carT_len (come : List Int) (l : List S58) : ∀ k, (carT come l k).length ≤ k
  | 0 => Nat.le_refl _
  | k + 1 => by
    have := carT_len come l k
    rw [carT]; split <;> simp <;> omega
def carL (n : Int) (l : List S58) (sv st : Int) : List Int := if openE n l sv st [] = 0 then carT (runC soonF (fun _ => true) n l sv st).1 l l.length else []

set_option maxHeartbeats 4000000 in
set_option maxRecDepth 100000 in
theorem sure_calls (n : Int) (A : Option Addr) (c : Nat) (l : List S58) (sv st : Int) (w : World) (hr : Kd.C k58 w A l.length l) :
    Calls Try.prog 26 #[.agg #[.int .i64 n, .slice A l.length c], .agg #[.int .i64 sv, .int .i64 st]] w fun e w' => ∃ v0, e = .returned (.tuple #[v0, .int .i64 (openE n l sv st [])]) ∧ Kd.R (Kd.int .i64) 3 w' w.heap.size (fun _ => True) v0 (sureL n l sv st) ∧ Below w.heap.size w w' := by
  have hbx := boxes2 w (.cells #[.int .i64 n, .slice A l.length c] 24) (.cells #[.int .i64 sv, .int .i64 st] 26)
  have hrx := Kd.C_below hr hbx
  have HR := Lib.hid hr
  have hlm := hr.2.1
  clear hr
  rcases Classical.em (openE n l sv st [] = 0) with hE | hE
  · have HO := Lib.hid (open_ok n A c l sv st none 0 [] ((w.alloc (.cells #[.int .i64 n, .slice A l.length c] 24)).alloc (.cells #[.int .i64 sv, .int .i64 st] 26)) hrx (C_nil _) hE)
    have HE := Lib.hid hE
    have HX := Lib.hid hbx
    have B0 : Blk ((w.alloc (.cells #[.int .i64 n, .slice A l.length c] 24)).alloc (.cells #[.int .i64 sv, .int .i64 st] 26)) w.heap.size 24 #[.int .i64 n, .slice A l.length c] := (Blk.new w _ 24).alloc _
    have hsz : ((w.alloc (.cells #[.int .i64 n, .slice A l.length c] 24)).alloc (.cells #[.int .i64 sv, .int .i64 st] 26)).heap.size = w.heap.size + 2 := by simp
    have HB0 := Lib.hid B0
    have HSZ := Lib.hid hsz
    clear hE hbx hrx B0 hsz
    go_enter Try.func26, Try.ntmps26
    go_upto_region 4 with (go_at_call 52; refine (HO.out).mono ?_; rintro e w' ⟨w1, hb1, rfl, rfl⟩; have HB1 := Lib.hid hb1; clear hb1)
    obtain ⟨hy, hsv, hsv2, hst, hst2, _⟩ := openOK HE.out
    have hsz1 : w.heap.size + 2 ≤ w1.heap.size := by have := HB1.out.size; rw [HSZ.out] at this; exact this
    have hb2 : Below (w.heap.size + 2) ((w.alloc (.cells #[.int .i64 n, .slice A l.length c] 24)).alloc (.cells #[.int .i64 sv, .int .i64 st] 26)) (w1.alloc (.cells (searchCells n (.slice A l.length c) sv st) 96)) := by rw [← HSZ.out]; exact HB1.out.alloc HB1.out.size _
    have HB2 := Lib.hid hb2
    have B1 := HB0.out.below hb2 (by omega)
    have hB : Below w.heap.size w (w1.alloc (.cells (searchCells n (.slice A l.length c) sv st) 96)) := HX.out.trans (hb2.mono (by omega))
    have HS := opened w1 n (.slice A l.length c) sv st
    have HRUN := Lib.hid (run_any sureF 56 (.inr ⟨rfl, rfl⟩) n A c l sv st _ _ w1.heap.size w _ HS hy hsv hsv2 HR.out (by omega) hB.block)
    generalize w1.alloc (.cells (searchCells n (.slice A l.length c) sv st) 96) = W1 at *
    have HY := Lib.hid hy
    have HB1' := Lib.hid B1
    have HBB := Lib.hid hB
    have hBlt := HS.lt
    clear hb2 B1 hB HS hy
    go_upto_region 6 with (go_at_call 61; refine (HRUN.out).mono ?_; rintro e W2 ⟨M, N, ⟨ve, rfl⟩, hS2, hM2, hg2, hM⟩; have HS2 := Lib.hid hS2; have HG2 := Lib.hid hg2; clear hS2 hM2 hg2)
    have hn1 := HY.out.n1
    have hn2 := HY.out.n2
    have hn0 : 0 ≤ n := by omega
    have hlenl := HY.out.len
    obtain ⟨W2d, e2⟩ : ∃ W2d, W2.drew = W2d := ⟨_, rfl⟩
    have g2 : W2.grownBy W2d none := by rw [← e2]; exact grown_of_below (below_drew (Below.refl W2.heap.size W2)) none
    have HS3 := HS2.out.kept g2 (by simp)
    have HB3 := (HB1'.out.kept HG2.out (by simp; omega)).kept g2 (by simp)
    have hcn : W2d.cell? ⟨w.heap.size, 0, none⟩ = some (.int .i64 n) := HB3.cell 0
    have hw2 := Lib.hid (show Below w.heap.size w W2d from below_grown (below_grown HBB.out HG2.out (fun r e => by cases e; omega)) g2 (fun r e => by cases e))
    refine wp_region_still_lit (by kernel_rfl) (by kernel_rfl) ?_
    generalize hzz : ({ heap := W2.heap, tape := W2.tape, drawn := W2.drawn + 1, os := W2.os, output := W2.output } : World) = Wz
    have hz1 : Wz = W2d := hzz.symm.trans e2
    subst hz1
    clear hzz
    repeat still_step
    refine wpStill_nil ?_
    clear e2 g2
    go_wp2_with fail
    go_loopg [8, 31] n.toNat (fun kq v8 v31 w' => ∃ (k : Nat), v31 = .int .i64 k ∧ Aside0 (k + kq = n.toNat) ∧ Aside0 (Kd.R (Kd.int .i64) 3 w' Wz.heap.size (fun _ => True) v8 (sureT (runC sureF (fun _ => true) n l sv st).1 k)) ∧ Aside0 (Below Wz.heap.size Wz w'))
    case atStart => exact ⟨0, rfl, ⟨by omega⟩, ⟨Kd.R_nil _ _ _ _ _⟩, ⟨Below.refl _ _⟩⟩
    case round =>
      obtain ⟨k, rfl, HN, HL2, HB2⟩ := hrel
      have HS4 := HS3.below HB2.out HS3.lt
      cases gk with
      | succ k1 =>
        have hlt : (k : Int) < n := by have := HN.out; omega
        have hk20 : k < 20 := by omega
        have hlt2 : k < n.toNat := by omega
        have hc := HS4.cm k hk20
        have HLEN := Aside0.mk (sureT_len (runC sureF (fun _ => true) n l sv st).1 k)
        obtain ⟨t, ht⟩ : ∃ t, (runC sureF (fun _ => true) n l sv st).1.getD k 0 = t := ⟨_, rfl⟩
        rw [ht] at hc
        have HT := Lib.hid ht
        clear ht HS4
        have hl4 : decide ((k : Int) < n) = true := decide_eq_true hlt
        by_cases hne : t = 1048576
        · have hq : (t != 1048576) = false := by simp [hne]
          have HQ := Lib.hid hne
          clear hne
          go_wp2_with fail
          go_roundg k1
          case rel => exact ⟨k + 1, by go_num, ⟨by have := HN.out; omega⟩, ⟨by rw [sureT, HT.out, if_pos HQ.out]; exact HL2.out⟩, HB2⟩
          case measure => omega
        · have hq : (t != 1048576) = true := by simp [hne]
          have HQ := Lib.hid hne
          clear hne
          go_wp2_with ((with_reducible refine gate_builtin (b := .append) (xs := #[.tmp 38, .tmp 40]) rfl ?_); at_builtin; refine Kd.R_append (Kd.int .i64) (w0 := Wz) Wz.heap.size rfl (.tmp 38) (.tmp 40) 27 3 (.int .i64 0) 8 rfl Try.underlying27 info3 rfl (by decide) (by omega) u8 (sureT (runC sureF (fun _ => true) n l sv st).1 k) (k : Int) [.int .i64 (k : Int)] (fun _ => True) (fun _ => False) rfl rfl ?aP (fun _ hk => hk.elim) ?aF ?aO ?aB ?aS ?aL ?_; (case aP => exact rfl); (case aB => exact HB2.out); (case aF => exact (fun _ _ => trivial)); (case aO => exact HL2.out); (case aS => exact HB2.out.size); (case aL => have := HLEN.out; omega); intro v7 w24 ho hb hg hat; have HO7 := Aside0.mk ho; have HB7 := Aside0.mk hb; clear ho hb hg hat)
          go_roundg k1
          case rel => exact ⟨k + 1, by go_num, ⟨by have := HN.out; omega⟩, ⟨by rw [sureT, HT.out, if_neg HQ.out]; exact HO7.out⟩, HB7⟩
          case measure => omega
      | zero =>
        have hk : k = n.toNat := by have := HN.out; omega
        have hl4 : decide ((k : Int) < n) = false := decide_eq_false (by omega)
        clear HS4
        go_wp2_with fail
        go_ret2
        refine ⟨_, by rw [HE.out]; rfl, ?_, below_then hw2.out hw2.out.size HB2.out⟩
        rw [sureL, if_pos HE.out, ← hk]
        exact Kd.R_lower HL2.out hw2.out.size
  · have HO := Lib.hid (open_bad n A c l sv st none 0 [] ((w.alloc (.cells #[.int .i64 n, .slice A l.length c] 24)).alloc (.cells #[.int .i64 sv, .int .i64 st] 26)) hrx (C_nil _) hE)
    obtain ⟨ev, hev⟩ : ∃ ev, openE n l sv st [] = ev := ⟨_, rfl⟩
    rw [hev] at HO hE
    have HEV := Lib.hid hev
    have hne : (ev != 0) = true := by simp [hE]
    have HE := Lib.hid hE
    have HX := Lib.hid hbx
    clear hev hE hbx hrx
    go_enter Try.func26, Try.ntmps26
    go_wp2_with (go_at_call 52; refine (HO.out).mono ?_; rintro e w' ⟨rfl, hb1⟩; have HB1 := Lib.hid hb1; clear hb1)
    go_ret2
    refine ⟨.slice none 0 0, by rw [HEV.out]; rfl, ?_, later2 HB1.out⟩
    rw [sureL, HEV.out, if_neg HE.out]; exact Kd.R_nil _ _ _ _ _

set_option maxHeartbeats 4000000 in
set_option maxRecDepth 100000 in
theorem carried_calls (n : Int) (A : Option Addr) (c : Nat) (l : List S58) (sv st : Int) (w : World) (hr : Kd.C k58 w A l.length l) :
    Calls Try.prog 24 #[.agg #[.int .i64 n, .slice A l.length c], .agg #[.int .i64 sv, .int .i64 st]] w fun e w' => ∃ v0, e = .returned (.tuple #[v0, .int .i64 (openE n l sv st [])]) ∧ Kd.R (Kd.int .i64) 3 w' w.heap.size (fun _ => True) v0 (carL n l sv st) ∧ Below w.heap.size w w' := by
  have hbx := boxes2 w (.cells #[.int .i64 n, .slice A l.length c] 24) (.cells #[.int .i64 sv, .int .i64 st] 26)
  have hrx := Kd.C_below hr hbx
  have HR := Lib.hid hr
  have hlm := hr.2.1
  clear hr
  rcases Classical.em (openE n l sv st [] = 0) with hE | hE
  · have HO := Lib.hid (open_ok n A c l sv st none 0 [] ((w.alloc (.cells #[.int .i64 n, .slice A l.length c] 24)).alloc (.cells #[.int .i64 sv, .int .i64 st] 26)) hrx (C_nil _) hE)
    have HE := Lib.hid hE
    have HX := Lib.hid hbx
    have B0 : Blk ((w.alloc (.cells #[.int .i64 n, .slice A l.length c] 24)).alloc (.cells #[.int .i64 sv, .int .i64 st] 26)) w.heap.size 24 #[.int .i64 n, .slice A l.length c] := (Blk.new w _ 24).alloc _
    have hsz : ((w.alloc (.cells #[.int .i64 n, .slice A l.length c] 24)).alloc (.cells #[.int .i64 sv, .int .i64 st] 26)).heap.size = w.heap.size + 2 := by simp
    have HB0 := Lib.hid B0
    have HSZ := Lib.hid hsz
    clear hE hbx hrx B0 hsz
    go_enter Try.func24, Try.ntmps24
    go_upto_region 4 with (go_at_call 52; refine (HO.out).mono ?_; rintro e w' ⟨w1, hb1, rfl, rfl⟩; have HB1 := Lib.hid hb1; clear hb1)
    obtain ⟨hy, hsv, hsv2, hst, hst2, _⟩ := openOK HE.out
    have hsz1 : w.heap.size + 2 ≤ w1.heap.size := by have := HB1.out.size; rw [HSZ.out] at this; exact this
    have hb2 : Below (w.heap.size + 2) ((w.alloc (.cells #[.int .i64 n, .slice A l.length c] 24)).alloc (.cells #[.int .i64 sv, .int .i64 st] 26)) (w1.alloc (.cells (searchCells n (.slice A l.length c) sv st) 96)) := by rw [← HSZ.out]; exact HB1.out.alloc HB1.out.size _
    have HB2 := Lib.hid hb2
    have B1 := HB0.out.below hb2 (by omega)
    have hB : Below w.heap.size w (w1.alloc (.cells (searchCells n (.slice A l.length c) sv st) 96)) := HX.out.trans (hb2.mono (by omega))
    have HS := opened w1 n (.slice A l.length c) sv st
    have HRUN := Lib.hid (run_any soonF 55 (.inl ⟨rfl, rfl⟩) n A c l sv st _ _ w1.heap.size w _ HS hy hsv hsv2 HR.out (by omega) hB.block)
    generalize w1.alloc (.cells (searchCells n (.slice A l.length c) sv st) 96) = W1 at *
    have HY := Lib.hid hy
    have HB1' := Lib.hid B1
    have HBB := Lib.hid hB
    have hBlt := HS.lt
    clear hb2 B1 hB HS hy
    go_upto_region 6 with (go_at_call 61; refine (HRUN.out).mono ?_; rintro e W2 ⟨M, N, ⟨ve, rfl⟩, hS2, hM2, hg2, hM⟩; have HS2 := Lib.hid hS2; have HG2 := Lib.hid hg2; clear hS2 hM2 hg2)
    have hn1 := HY.out.n1
    have hn2 := HY.out.n2
    have hn0 : 0 ≤ n := by omega
    have hlenl := HY.out.len
    have hlr := Lib.hid (show Kd.C k58 W2 A l.length l from hp58.C (fun q hq => (HG2.out.block q (by have := HBB.out.size; omega) (by simp; omega)).trans (HBB.out.block q hq)) HR.out)
    have hw2 := Lib.hid (show Below w.heap.size w W2 from below_grown HBB.out HG2.out (fun r e => by cases e; omega))
    have HB3 := HB1'.out.kept HG2.out (by simp; omega)
    have hcl : W2.cell? ⟨w.heap.size, 1, none⟩ = some (.slice A l.length c) := HB3.cell 1
    clear HB3
    go_wp2_with fail
    go_loopg [8, 29] l.length (fun kq v8 v29 w' => ∃ (k : Nat), v29 = .int .i64 k ∧ Aside0 (k + kq = l.length) ∧ Aside0 (OutV w' W2.heap.size v8 (carT (runC soonF (fun _ => true) n l sv st).1 l k)) ∧ Aside0 (Below W2.heap.size W2 w'))
    case atStart => exact ⟨0, rfl, ⟨by omega⟩, ⟨.inl ⟨rfl, rfl⟩⟩, ⟨Below.refl _ _⟩⟩
    case round =>
      obtain ⟨k, rfl, HN, HL2, HB2w⟩ := hrel
      cases gk with
      | succ k1 =>
        have hlt : k < l.length := by have := HN.out; omega
        have hl4 : decide ((k : Int) < (l.length : Int)) = true := decide_eq_true (by omega)
        have hl5 : decide (k < l.length) = true := decide_eq_true hlt
        have hC := Kd.C_below hlr.out HB2w.out
        obtain ⟨ad, e0, hc0, hc1, hc2, hc3⟩ := at_T58 hC (k : Int) (by omega) (by omega)
        cases e0
        have hmem : rd_T58 l (k : Int) ∈ l := by rw [rd_T58_nat l k hlt]; exact List.getElem_mem hlt
        have hgd : l.getD k z58 = rd_T58 l (k : Int) := by simp [rd_T58]
        have HM := HY.out.mv _ hmem
        have HCT := Lib.hid (show carT (runC soonF (fun _ => true) n l sv st).1 l (k + 1) = if (runC soonF (fun _ => true) n l sv st).1.getD (rd_T58 l (k : Int)).f0.toNat 0 ≤ (rd_T58 l (k : Int)).f2.f1 then carT (runC soonF (fun _ => true) n l sv st).1 l k ++ [(k : Int)] else carT (runC soonF (fun _ => true) n l sv st).1 l k by rw [carT, hgd])
        rw [Int.toNat_natCast] at hc0 hc1 hc2 hc3
        clear hC hmem hgd
        generalize rd_T58 l (k : Int) = m at *
        obtain ⟨hm1, hm2, _⟩ := HM
        go_upto_region 9 with (fail)
        have hbw : Below W2.heap.size W2 (wr.alloc (.cells #[.int .i64 m.f0, .int .i64 m.f1, .int .i64 m.f2.f0, .int .i64 m.f2.f1] 58)) := HB2w.out.alloc HB2w.out.size _
        have hbk := Blk.new wr #[.int .i64 m.f0, .int .i64 m.f1, .int .i64 m.f2.f0, .int .i64 m.f2.f1] 58
        have ho2 := HL2.out.kept (World.grownBy_alloc wr (.cells #[.int .i64 m.f0, .int .i64 m.f1, .int .i64 m.f2.f0, .int .i64 m.f2.f1] 58) none) (fun r e => by cases e)
        generalize wr.heap.size = bM at *
        generalize wr.alloc (.cells #[.int .i64 m.f0, .int .i64 m.f1, .int .i64 m.f2.f0, .int .i64 m.f2.f1] 58) = W3 at *
        clear hc0 hc1 hc2 hc3 HL2 HB2w
        have HS3 := HS2.out.below hbw HS2.out.lt
        have hc := HS3.cm m.f0.toNat (by omega)
        obtain ⟨t, ht⟩ : ∃ t, (runC soonF (fun _ => true) n l sv st).1.getD m.f0.toNat 0 = t := ⟨_, rfl⟩
        rw [ht] at hc
        have HT := Lib.hid ht
        clear ht HS3
        have hm20 : m.f0 < 20 := by omega
        have g0 := cell_regrown (show W3.cell? ⟨bM, 0, none⟩ = some (.int .i64 m.f0) from hbk.cell 0)
        have g1 := cell_regrown (show W3.cell? ⟨bM, 1, none⟩ = some (.int .i64 m.f1) from hbk.cell 1)
        have g2 := cell_regrown (show W3.cell? ⟨bM, 2, none⟩ = some (.int .i64 m.f2.f0) from hbk.cell 2)
        have g3 := cell_regrown (show W3.cell? ⟨bM, 3, none⟩ = some (.int .i64 m.f2.f1) from hbk.cell 3)
        have gc := cell_regrown hc
        have HCS := Lib.hid (fun (X : World) => soonest_calls t m X)
        have e58 : enc58 m = .agg #[.int .i64 m.f0, .int .i64 m.f1, .int .i64 m.f2.f0, .int .i64 m.f2.f1] := rfl
        rw [e58] at HCS
        have hbw' := Lib.hid hbw
        have ho2' := Lib.hid ho2
        clear hbw hbk hc ho2 e58
        cases hok : decide (t ≤ m.f2.f1) with
        | true =>
          have HOK := Lib.hid (of_decide_eq_true hok)
          rw [hok] at HCS
          clear hok
          refine wp_region_quiet_below (by kernel_rfl) (by kernel_rfl) ?_
          repeat (go_big_quiet_step ((go_at_call 55; exact Calls.regrown_of (HCS.out _))))
          refine wpQuiet_nil ?_
          intro _ hw'
          obtain ⟨⟨dq, osq⟩, hw''⟩ := hw'
          subst hw''
          clear g0 g1 g2 g3 gc
          have hb4 := below_regrown W3 dq osq
          have HB4 := Lib.hid (below_then hbw'.out hbw'.out.size hb4)
          have ho4 := ho2'.out.kept (grown_of_below hb4 none) (fun r e => by cases e)
          clear hb4
          generalize Go.«Sort».grow (redrawn W3 dq) osq = W4 at *
          obtain ⟨A', c', rfl, hc', v', W5, hap, hov, hg5⟩ := grow27 ho4 (by have := carT_len (runC soonF (fun _ => true) n l sv st).1 l k; omega) (k : Int)
          have hcut := cut_full_27 A' (carT (runC soonF (fun _ => true) n l sv st).1 l k).length c' hc'
          have HOV := Lib.hid hov
          have HG5 := Lib.hid hg5
          clear hov hg5 ho4
          go_wp2_with ((with_reducible refine gate_builtin (b := .append) (xs := #[.tmp 52, .tmp 54]) rfl ?_); at_builtin; refine append_run rfl (.tmp 52) (.tmp 54) 27 rfl _ _ v' W5 rfl rfl hap ?_)
          go_roundg k1
          case rel => exact ⟨k + 1, by go_num, ⟨by have := HN.out; omega⟩, ⟨by rw [HCT.out, if_pos (by rw [HT.out]; exact HOK.out)]; exact HOV.out.lower HB4.out.size⟩, ⟨below_grown HB4.out HG5.out (fun r e => by cases e)⟩⟩
          case measure => omega
        | false =>
          have HOK := Lib.hid (of_decide_eq_false hok)
          rw [hok] at HCS
          clear hok
          refine wp_region_quiet_below (by kernel_rfl) (by kernel_rfl) ?_
          repeat (go_big_quiet_step ((go_at_call 55; exact Calls.regrown_of (HCS.out _))))
          refine wpQuiet_nil ?_
          intro _ hw'
          obtain ⟨⟨dq, osq⟩, hw''⟩ := hw'
          subst hw''
          clear g0 g1 g2 g3 gc
          have hb4 := below_regrown W3 dq osq
          have HB4 := Lib.hid (below_then hbw'.out hbw'.out.size hb4)
          have ho4 := Lib.hid (ho2'.out.kept (grown_of_below hb4 none) (fun r e => by cases e))
          clear hb4
          go_wp2_with fail
          go_roundg k1
          case rel => exact ⟨k + 1, by go_num, ⟨by have := HN.out; omega⟩, ⟨by rw [HCT.out, if_neg (by rw [HT.out]; have := HOK.out; omega)]; exact ho4.out⟩, ⟨HB4.out⟩⟩
          case measure => omega
      | zero =>
        have hk : k = l.length := by have := HN.out; omega
        have hl4 : decide ((k : Int) < (l.length : Int)) = false := decide_eq_false (by omega)
        have hl5 : decide (k < l.length) = false := decide_eq_false (by omega)
        go_wp2_with fail
        go_ret2
        refine ⟨_, by rw [HE.out]; rfl, ?_, below_then hw2.out hw2.out.size HB2w.out⟩
        rw [carL, if_pos HE.out, ← hk]
        exact Kd.R_lower HL2.out.own hw2.out.size
  · have HO := Lib.hid (open_bad n A c l sv st none 0 [] ((w.alloc (.cells #[.int .i64 n, .slice A l.length c] 24)).alloc (.cells #[.int .i64 sv, .int .i64 st] 26)) hrx (C_nil _) hE)
    obtain ⟨ev, hev⟩ : ∃ ev, openE n l sv st [] = ev := ⟨_, rfl⟩
    rw [hev] at HO hE
    have HEV := Lib.hid hev
    have hne : (ev != 0) = true := by simp [hE]
    have HE := Lib.hid hE
    have HX := Lib.hid hbx
    clear hev hE hbx hrx
    go_enter Try.func24, Try.ntmps24
    go_wp2_with (go_at_call 52; refine (HO.out).mono ?_; rintro e w' ⟨rfl, hb1⟩; have HB1 := Lib.hid hb1; clear hb1)
    go_ret2
    refine ⟨.slice none 0 0, by rw [HEV.out]; rfl, ?_, later2 HB1.out⟩
    rw [carL, HEV.out, if_neg HE.out]; exact Kd.R_nil _ _ _ _ _
end Go.Proofs.Ytfhmepdbbhcncaa.P

namespace Go.Proofs.Ytfhmepdbbhcncaa.P
open Go.RowKit Go.Proofs.YtfhmepdbbhcncaaW.PrintWords

theorem rev_l0 : ∀ (k : Nat) (xs : List Int) (a : Nat), xs.length ≤ 100000 → xs.length ≤ 2 * a + k + 1 → a ≤ xs.length → ∃ ys, slices_Reverse_int_int.l0 (k + 1) xs (a : Int) ((xs.length : Int) - 1 - a) = some ys ∧ ys.length = xs.length ∧
    ∀ p, p < xs.length → ys.getD p 0 = if a ≤ p ∧ p + a < xs.length then xs.getD (xs.length - 1 - p) 0 else xs.getD p 0 := by
  intro k
  induction k with
  | zero =>
    intro xs a h1 h2 h3
    refine ⟨xs, ?_, rfl, fun p hp => ?_⟩
    · rw [slices_Reverse_int_int.l0, if_neg (by omega)]
    · split
      · have : xs.length - 1 - p = p := by omega
        rw [this]
      · rfl
  | succ k ih =>
    intro xs a h1 h2 h3
    by_cases hlt : (a : Int) < (xs.length : Int) - 1 - a
    · rw [slices_Reverse_int_int.l0, if_pos hlt, if_pos (by omega), if_pos (by omega), if_pos (by omega), if_pos (by omega)]
      have w1 : wrap64 ((a : Int) + 1) = ((a + 1 : Nat) : Int) := (IntWalk.wrap64_in _ (by omega)).trans (by omega)
      have w2 : wrap64 ((xs.length : Int) - 1 - a - 1) = (xs.length : Int) - 1 - ((a + 1 : Nat) : Int) := (IntWalk.wrap64_in _ (by omega)).trans (by omega)
      rw [w1, w2]
      have e2 : ((xs.length : Int) - 1 - a).toNat = xs.length - 1 - a := by omega
      obtain ⟨ys, hy, hl, hp⟩ := ih ((xs.set (a : Int).toNat (rd xs ((xs.length : Int) - 1 - a))).set ((xs.length : Int) - 1 - a).toNat (rd xs (a : Int))) (a + 1) (by simpa using h1) (by simp; omega) (by simp; omega)
      simp only [List.length_set] at hy hl hp
      refine ⟨ys, hy, hl, fun p hp' => ?_⟩
      rw [hp p hp']
      have gs : ∀ (q : Nat) (u v : Int), ((xs.set (a : Int).toNat u).set ((xs.length : Int) - 1 - a).toNat v).getD q 0 = if q = xs.length - 1 - a then v else if q = a then u else xs.getD q 0 := by
        intro q u v
        rw [e2, Int.toNat_natCast, List.getD_eq_getElem?_getD, List.getElem?_set, List.getElem?_set]
        by_cases h4 : xs.length - 1 - a = q
        · rw [if_pos h4, if_pos h4.symm, if_pos (by simp; omega)]; rfl
        · have h4' : ¬ q = xs.length - 1 - a := fun e => h4 e.symm
          rw [if_neg h4, if_neg h4']
          by_cases h5 : a = q
          · have h6 : a < xs.length := by omega
            rw [if_pos h5, if_pos h5.symm, if_pos h6]; rfl
          · have h5' : ¬ q = a := fun e => h5 e.symm
            rw [if_neg h5, if_neg h5', List.getD_eq_getElem?_getD]
      rw [gs, gs]
      have r1 : rd xs ((xs.length : Int) - 1 - a) = xs.getD (xs.length - 1 - a) 0 := by rw [rd, e2]
      have r2 : rd xs (a : Int) = xs.getD a 0 := by rw [rd, Int.toNat_natCast]
      rw [r1, r2]
      by_cases hpa : p = a
      · subst hpa
        have c1 : ¬ (p + 1 ≤ p ∧ p + (p + 1) < xs.length) := by omega
        have c2 : p ≠ xs.length - 1 - p := by omega
        have c3 : p ≤ p ∧ p + p < xs.length := by omega
        rw [if_neg c1, if_neg c2, if_pos rfl, if_pos c3]
      · by_cases hpb : p = xs.length - 1 - a
        · have c1 : ¬ (a + 1 ≤ p ∧ p + (a + 1) < xs.length) := by omega
          have c3 : a ≤ p ∧ p + a < xs.length := by omega
          have c4 : xs.length - 1 - p = a := by omega
          rw [if_neg c1, if_pos hpb, if_pos c3, c4]
        · by_cases hin : a ≤ p ∧ p + a < xs.length
          · have c1 : a + 1 ≤ p ∧ p + (a + 1) < xs.length := by omega
            have c2 : xs.length - 1 - p ≠ xs.length - 1 - a := by omega
            have c3 : xs.length - 1 - p ≠ a := by omega
            rw [if_pos c1, if_pos hin, if_neg c2, if_neg c3]
          · have c1 : ¬ (a + 1 ≤ p ∧ p + (a + 1) < xs.length) := by omega
            rw [if_neg c1, if_neg hin, if_neg hpb, if_neg hpa]
    · refine ⟨xs, ?_, rfl, fun p hp => ?_⟩
      · rw [slices_Reverse_int_int.l0, if_neg hlt]
      · split
        · have : xs.length - 1 - p = p := by omega
          rw [this]
        · rfl

theorem rev_ok (xs : List Int) (h : xs.length ≤ 100000) : slices_Reverse_int_int.f 100001 xs = some xs.reverse := by
  obtain ⟨ys, hy, hl, hp⟩ := rev_l0 100000 xs 0 h (by omega) (by omega)
  have e : wrap64 ((xs.length : Int) - 1) = (xs.length : Int) - 1 - ((0 : Nat) : Int) := (IntWalk.wrap64_in _ (by omega)).trans (by omega)
  rw [slices_Reverse_int_int.f, e]
  refine hy.trans ?_
  congr 1
  apply List.ext_getElem
  · simpa using hl
  · intro p h1 h2
    have h3 : p < xs.length := by omega
    have := hp p h3
    rw [if_pos (by omega)] at this
    rw [List.getElem_reverse]
    simpa [List.getD_eq_getElem?_getD, h1, h3, show xs.length - 1 - p < xs.length by omega] using this
end Go.Proofs.Ytfhmepdbbhcncaa.P

