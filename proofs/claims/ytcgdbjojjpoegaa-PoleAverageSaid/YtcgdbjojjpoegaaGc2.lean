/- Texts of this claim, joined: Px0, S, C, E1, E2, E3, Pf52, E4, E5, E7, E8, E9, E6a, E6, Pf53, E11, E12, E13, E14, E10. -/
import Derived.Test.YtcgdbjojjpoegaaGc1
import Derived.Test.YtcgdbjojjpoegaaProg
import Derived.Below
import Derived.Deep.Draws
import Derived.Deep.AppendLies
import Derived.Maps.AppendAt
import Derived.OwnWalk
import Derived.Laws.BytesArg
import Derived.Laws.MakeOwn
import Derived.Laws.OwnMore
import Derived.Deep.OwnRows
import Derived.Tactics
import Derived.Lib.ConvBytes
import Derived.Laws.Slices
import Derived.WalkKit
import Derived.KernelRfl
import Derived.RowKit3
import Derived.Deep.LoopGhost
import Derived.Deep.QuietTactic
import Derived.BigQuiet
import Derived.WideLaws
import Derived.Deep.DeepCutAuto
import Derived.Deep.CutBlock
import Derived.Deep.RegionHeld3
import Derived.Laws.Rows
import Derived.Lib.AppendStr
import Derived.ArgAppend
import Derived.Laws.IdiomCopy
import Derived.OrdersHeld
import Derived.Laws.BitsLemmas
import Derived.RowKit
import Derived.Lib.Hide
import Derived.Outline
import Derived.Shelf.Abstract
import Derived.Lib.SliceRun
import Derived.RangeFuncBox
import Derived.Shelf.SlicesG.CompactI
import Derived.Shelf.SortM.Plain
import Derived.Sort.OwnSortedInts
namespace Go.Proofs.Ytcgdbjojjpoegaa.P
open Go.RowKit Go.Proofs.YtcgdbjojjpoegaaW.PrintWords Go.Proofs.YtcgdbjojjpoegaaW.PrintLast Go.Proofs.YtcgdbjojjpoegaaW.PrintMore
attribute [local go_sem] max2_int min2_int max_two min_two max_three min_three max_four min_four   -- for this text's walks alone
set_option linter.unusedVariables false
set_option linter.unusedSimpArgs false

def errW : Option Int → Value
  | none => .nilIface
  | some c => .iface 0 (.int .i64 c)
theorem errW_none : errW none = .nilIface := rfl
theorem errW_some (c : Int) : errW (some c) = .iface 0 (.int .i64 c) := rfl

theorem info2 : (Try.prog.info? 2).map (fun i => (i.zero, i.size, i.bytes)) = some (some (.int .i64 0), 1, 8) := by kernel_rfl
theorem info48 : (Try.prog.info? 48).map (fun i => (i.zero, i.size, i.bytes)) = some (some (.slice none 0 0), 1, 24) := by kernel_rfl
theorem info54 : (Try.prog.info? 54).map (fun i => (i.zero, i.size, i.bytes)) = some (some (.agg #[(.int .i64 0), (.int .i64 0)]), 2, 16) := by kernel_rfl
-- the values' own types
/-! #### struct type 54 -/
structure S54 where
  f0 : Int
  f1 : Int
def z54 : S54 := ⟨(0 : Int), (0 : Int)⟩
def k54 : Kd S54 := Kd.iso (Kd.pair (Kd.int .i64) (Kd.int .i64)) (fun x : S54 => (x.f0, x.f1))
theorem k54_open {w : World} {x : S54} {cs : List Value} (h : k54.K w x cs) : cs = [.int .i64 x.f0, .int .i64 x.f1] := by
  obtain ⟨_, _, rfl, rfl, rfl⟩ := h
  exact rfl
theorem k54_openM {w : World} {base : Nat} {ok : Nat → Prop} {x : S54} {cs : List Value} (h : k54.M w base ok x cs) : cs = [.int .i64 x.f0, .int .i64 x.f1] := by
  obtain ⟨_, _, rfl, rfl, rfl⟩ := h
  exact rfl
theorem k54_mk (w : World) (x : S54)  : k54.K w x [.int .i64 x.f0, .int .i64 x.f1] := ⟨[.int .i64 x.f0], [.int .i64 x.f1], rfl, rfl, rfl⟩
theorem k54_mkM (w : World) (base : Nat) (ok : Nat → Prop) (x : S54)  : k54.M w base ok x [.int .i64 x.f0, .int .i64 x.f1] := ⟨[.int .i64 x.f0], [.int .i64 x.f1], rfl, rfl, rfl⟩
def rd_T54 (xs : List S54) (i : Int) : S54 := xs.getD i.toNat z54
theorem at_T54 {w : World} {A : Option Addr} {n : Nat} {xs : List S54} (h : Kd.C k54 w A n xs) (i : Int) (h0 : 0 ≤ i) (h1 : i < n) : ∃ ad , A = some ad ∧ w.cell? (ad.add (i.toNat * 2)) = some (.int .i64 (rd_T54 xs i).f0) ∧ w.cell? ⟨(ad.add (i.toNat * 2)).block, (ad.add (i.toNat * 2)).off + 1, none⟩ = some (.int .i64 (rd_T54 xs i).f1) := by
  obtain ⟨ad, c, e, _, hK, hc0⟩ := Kd.C_get h z54 i h0 h1
  have hc : ∀ j u, c[j]? = some u → w.cell? (ad.add (i.toNat * 2 + j)) = some u := hc0
  obtain rfl := k54_open hK
  exact ⟨ad, e, hc 0 _ rfl, by rw [← add_field _ _ 1 (by omega)]; exact hc 1 _ rfl⟩

def rd_L2 (xs : List (List Int)) (i : Int) : (List Int) := xs.getD i.toNat ([] : List Int)
theorem at_L2 {w : World} {A : Option Addr} {n : Nat} {xs : List (List Int)} (h : Kd.C (Kd.slice 2 (Kd.int .i64)) w A n xs) (i : Int) (h0 : 0 ≤ i) (h1 : i < n) : ∃ ad A0 c0, A = some ad ∧ w.cell? (ad.add i.toNat) = some (.slice A0 (rd_L2 xs i).length c0) ∧ (rd_L2 xs i).length ≤ c0 ∧ (Kd.int .i64).C w A0 (rd_L2 xs i).length (rd_L2 xs i) := by
  obtain ⟨ad, c, e, _, hK, hc0⟩ := Kd.C_get h ([] : List Int) i h0 h1
  have hc : ∀ j u, c[j]? = some u → w.cell? (ad.add (i.toNat * 1 + j)) = some u := hc0
  obtain ⟨A0, c0, rfl, l0, g0⟩ := hK
  exact ⟨ad, A0, c0, e, by have hq := hc 0 _ rfl; rwa [Nat.mul_one, Nat.add_zero] at hq, l0, g0⟩

/-! #### struct type 71 -/
structure S71 where
  f0 : Int
  f1 : (List (List Int))
def z71 : S71 := ⟨(0 : Int), ([] : List (List Int))⟩
def k71 : Kd S71 := Kd.iso (Kd.pair (Kd.int .i64) (Kd.slice 48 (Kd.slice 2 (Kd.int .i64)))) (fun x : S71 => (x.f0, x.f1))
theorem k71_open {w : World} {x : S71} {cs : List Value} (h : k71.K w x cs) : ∃ A1 c1, cs = [.int .i64 x.f0, .slice A1 x.f1.length c1] ∧ x.f1.length ≤ c1 ∧ (Kd.slice 2 (Kd.int .i64)).C w A1 x.f1.length x.f1 := by
  obtain ⟨_, _, rfl, rfl, ⟨A1, c1, rfl, l1, g1⟩⟩ := h
  exact ⟨A1, c1, rfl, l1, g1⟩
theorem k71_mkM (w : World) (base : Nat) (ok : Nat → Prop) (x : S71) {v1 : Value} (g1 : (Kd.slice 2 (Kd.int .i64)).R 48 w base ok v1 x.f1) : k71.M w base ok x [.int .i64 x.f0, v1] := ⟨[.int .i64 x.f0], [v1], rfl, rfl, ⟨v1, rfl, g1⟩⟩
def rd_T71 (xs : List S71) (i : Int) : S71 := xs.getD i.toNat z71
theorem at_T71 {w : World} {A : Option Addr} {n : Nat} {xs : List S71} (h : Kd.C k71 w A n xs) (i : Int) (h0 : 0 ≤ i) (h1 : i < n) : ∃ ad A1 c1, A = some ad ∧ w.cell? (ad.add (i.toNat * 2)) = some (.int .i64 (rd_T71 xs i).f0) ∧ w.cell? ⟨(ad.add (i.toNat * 2)).block, (ad.add (i.toNat * 2)).off + 1, none⟩ = some (.slice A1 (rd_T71 xs i).f1.length c1) ∧ (rd_T71 xs i).f1.length ≤ c1 ∧ (Kd.slice 2 (Kd.int .i64)).C w A1 (rd_T71 xs i).f1.length (rd_T71 xs i).f1 := by
  obtain ⟨ad, c, e, _, hK, hc0⟩ := Kd.C_get h z71 i h0 h1
  have hc : ∀ j u, c[j]? = some u → w.cell? (ad.add (i.toNat * 2 + j)) = some u := hc0
  obtain ⟨A1, c1, rfl, l1, g1⟩ := k71_open hK
  exact ⟨ad, A1, c1, e, hc 0 _ rfl, by rw [← add_field _ _ 1 (by omega)]; exact hc 1 _ rfl, l1, g1⟩

end Go.Proofs.Ytcgdbjojjpoegaa.P

/- Steps of drawn regions and closing blocks under short names; what they ask is shown by default. -/
namespace Go.Proofs.Ytcgdbjojjpoegaa.P
open Go.RowKit Go.Proofs.YtcgdbjojjpoegaaW.PrintWords Go.Proofs.YtcgdbjojjpoegaaW.PrintLast Go.Proofs.YtcgdbjojjpoegaaW.PrintMore
set_option linter.unusedVariables false
section
variable {P : Program} {ops : Array Oper} {Q : Exit → Act → World → Prop} {S : World → Prop} {ds : List Nat}
/-- which operations are done, as bits -/
def bA (n m : Nat) : Array Bool := ((List.range n).map fun i => m.testBit i).toArray
theorem sA_ (n : Nat) (S : World → Prop) (ds : List Nat) {T : Bool × List (List Nat × List Nat)} {B : List Nat} {id : Nat} {a : Act} {w : World} (hT : rtab .any ops = T) (hB : waitsOk T.2 B = true) (hS : S w.drew)
    (h : S w.drew → Aside0 (rtab .any ops = T) → Aside0 (waitsOk T.2 B = true) → wpAnyLast P .any ops Q S ds n (bA n 0) a w.drew) (hm : P.follows .mixedOrders = true := by kernel_rfl) (hn : ops.size = n := by rfl) (hl : Array.replicate n false = bA n 0 := by rfl) : (Code.region id ops true).wp P Q a w :=
  start_ (bA n 0) hm hn hl hS fun s => h s ⟨hT⟩ ⟨hB⟩
theorem pA_ (i : Nat) (N : Option Tmp) (n m : Nat) {oi : Oper} {v : Value} {fuel : Nat} {l : Array Bool} {a : Act} {w : World} {a' : Act} (h : wpAnyLast P .any ops Q S ds fuel (bA n m) a' w)
    (hi : ops[i]? = some oi := by rfl) (hN : oi.dst = N := by rfl) (hc : anyB .any ops l (bA n m) i = true := by exact any_of HT_.out (by kernel_rfl))
    (hQ : ∀ c a w, Q (.panic c) (a.put oi.dst v) w → Q (.panic c) a w := by exact fun _ _ _ h => h) (hy : Yields P ops oi v a := by (refine Or.inl ⟨by rfl, ?_⟩; intro w'; go_simp; with_reducible rfl)) (ha : a.put N v = a' := by (simp only [Act.put, List.setIfInBounds_toArray, List.set_cons_zero, List.set_cons_succ, i64_w, i32_w]; rfl)) :
    wpAnyLast P .any ops Q S ds (fuel + 1) l a w := pure_ (bA n m) hi hN hc hQ hy ha h
theorem tA_ (i : Nat) (N : Option Tmp) (n m : Nat) {oi : Oper} {v : Value} {fuel : Nat} {l : Array Bool} {a : Act} {w : World} {a' : Act} (h : wpAnyLast P .any ops Q S ds fuel (bA n m) a' w)
    (hi : ops[i]? = some oi := by rfl) (hN : oi.dst = N := by rfl) (hc : takeB .any ops ds l (bA n m) i = true := by exact take_ofW HT_.out HW_.out (by kernel_rfl))
    (hQ : ∀ c a w, Q (.panic c) (a.put oi.dst v) w → Q (.panic c) a w := by exact fun _ _ _ h => h) (hy : YieldsIf P ops S oi v a := by (refine Or.inl ⟨by rfl, ?_⟩; rintro w' ⟨⟨s0, s1⟩, ⟨s2, s3⟩, s4⟩; go_simp; with_reducible rfl)) (hS : S w := by exact hHeld) (ha : a.put N v = a' := by (simp only [Act.put, List.setIfInBounds_toArray, List.set_cons_zero, List.set_cons_succ, i64_w, i32_w]; rfl)) :
    wpAnyLast P .any ops Q S ds (fuel + 1) l a w := take_ (bA n m) hi hN hc hQ hy hS ha h
theorem tB_ (i : Nat) (N : Option Tmp) (n m : Nat) {oi : Oper} {v : Value} {fuel : Nat} {l : Array Bool} {a : Act} {w : World} {a' : Act} (h : wpAnyLast P .any ops Q S ds fuel (bA n m) a' w)
    (hi : ops[i]? = some oi := by rfl) (hN : oi.dst = N := by rfl) (hc : takeB .any ops ds l (bA n m) i = true := by exact take_ofW HT_.out HW_.out (by kernel_rfl))
    (hQ : ∀ c a w, Q (.panic c) (a.put oi.dst v) w → Q (.panic c) a w := by exact fun _ _ _ h => h) (hy : YieldsIf P ops S oi v a := by (refine Or.inl ⟨by rfl, ?_⟩; rintro w' ⟨s0, s1⟩; go_simp; with_reducible rfl)) (hS : S w := by exact hHeld) (ha : a.put N v = a' := by (simp only [Act.put, List.setIfInBounds_toArray, List.set_cons_zero, List.set_cons_succ, i64_w, i32_w]; rfl)) :
    wpAnyLast P .any ops Q S ds (fuel + 1) l a w := take_ (bA n m) hi hN hc hQ hy hS ha h
theorem tC_ (i : Nat) (N : Option Tmp) (n m : Nat) {oi : Oper} {v : Value} {fuel : Nat} {l : Array Bool} {a : Act} {w : World} {a' : Act} (h : wpAnyLast P .any ops Q S ds fuel (bA n m) a' w)
    (hi : ops[i]? = some oi := by rfl) (hN : oi.dst = N := by rfl) (hc : takeB .any ops ds l (bA n m) i = true := by exact take_ofW HT_.out HW_.out (by kernel_rfl))
    (hQ : ∀ c a w, Q (.panic c) (a.put oi.dst v) w → Q (.panic c) a w := by exact fun _ _ _ h => h) (hy : YieldsIf P ops S oi v a := by (refine Or.inl ⟨by rfl, ?_⟩; rintro w' ⟨⟨s0, s1, s2⟩, s3, s4, s5⟩; go_simp; with_reducible rfl)) (hS : S w := by exact hHeld) (ha : a.put N v = a' := by (simp only [Act.put, List.setIfInBounds_toArray, List.set_cons_zero, List.set_cons_succ, i64_w, i32_w]; rfl)) :
    wpAnyLast P .any ops Q S ds (fuel + 1) l a w := take_ (bA n m) hi hN hc hQ hy hS ha h
theorem tD_ (i : Nat) (N : Option Tmp) (n m : Nat) {oi : Oper} {v : Value} {fuel : Nat} {l : Array Bool} {a : Act} {w : World} {a' : Act} (h : wpAnyLast P .any ops Q S ds fuel (bA n m) a' w)
    (hi : ops[i]? = some oi := by rfl) (hN : oi.dst = N := by rfl) (hc : takeB .any ops ds l (bA n m) i = true := by exact take_ofW HT_.out HW_.out (by kernel_rfl))
    (hQ : ∀ c a w, Q (.panic c) (a.put oi.dst v) w → Q (.panic c) a w := by exact fun _ _ _ h => h) (hy : YieldsIf P ops S oi v a := by (refine Or.inl ⟨by rfl, ?_⟩; rintro w' ⟨⟨s0, s1⟩, s2, s3, s4⟩; go_simp; with_reducible rfl)) (hS : S w := by exact hHeld) (ha : a.put N v = a' := by (simp only [Act.put, List.setIfInBounds_toArray, List.set_cons_zero, List.set_cons_succ, i64_w, i32_w]; rfl)) :
    wpAnyLast P .any ops Q S ds (fuel + 1) l a w := take_ (bA n m) hi hN hc hQ hy hS ha h
theorem tE_ (i : Nat) (N : Option Tmp) (n m : Nat) {oi : Oper} {v : Value} {fuel : Nat} {l : Array Bool} {a : Act} {w : World} {a' : Act} (h : wpAnyLast P .any ops Q S ds fuel (bA n m) a' w)
    (hi : ops[i]? = some oi := by rfl) (hN : oi.dst = N := by rfl) (hc : takeB .any ops ds l (bA n m) i = true := by exact take_ofW HT_.out HW_.out (by kernel_rfl))
    (hQ : ∀ c a w, Q (.panic c) (a.put oi.dst v) w → Q (.panic c) a w := by exact fun _ _ _ h => h) (hy : YieldsIf P ops S oi v a := by (refine Or.inl ⟨by rfl, ?_⟩; rintro w' ⟨s0, s1, s2⟩; go_simp; with_reducible rfl)) (hS : S w := by exact hHeld) (ha : a.put N v = a' := by (simp only [Act.put, List.setIfInBounds_toArray, List.set_cons_zero, List.set_cons_succ, i64_w, i32_w]; rfl)) :
    wpAnyLast P .any ops Q S ds (fuel + 1) l a w := take_ (bA n m) hi hN hc hQ hy hS ha h
theorem tF_ (i : Nat) (N : Option Tmp) (n m : Nat) {oi : Oper} {v : Value} {fuel : Nat} {l : Array Bool} {a : Act} {w : World} {a' : Act} (h : wpAnyLast P .any ops Q S ds fuel (bA n m) a' w)
    (hi : ops[i]? = some oi := by rfl) (hN : oi.dst = N := by rfl) (hc : takeB .any ops ds l (bA n m) i = true := by exact take_ofW HT_.out HW_.out (by kernel_rfl))
    (hQ : ∀ c a w, Q (.panic c) (a.put oi.dst v) w → Q (.panic c) a w := by exact fun _ _ _ h => h) (hy : YieldsIf P ops S oi v a := by (refine Or.inl ⟨by rfl, ?_⟩; rintro w' ⟨s0, s1, s2, s3⟩; go_simp; with_reducible rfl)) (hS : S w := by exact hHeld) (ha : a.put N v = a' := by (simp only [Act.put, List.setIfInBounds_toArray, List.set_cons_zero, List.set_cons_succ, i64_w, i32_w]; rfl)) :
    wpAnyLast P .any ops Q S ds (fuel + 1) l a w := take_ (bA n m) hi hN hc hQ hy hS ha h
theorem tG_ (i : Nat) (N : Option Tmp) (n m : Nat) {oi : Oper} {v : Value} {fuel : Nat} {l : Array Bool} {a : Act} {w : World} {a' : Act} (h : wpAnyLast P .any ops Q S ds fuel (bA n m) a' w)
    (hi : ops[i]? = some oi := by rfl) (hN : oi.dst = N := by rfl) (hc : takeB .any ops ds l (bA n m) i = true := by exact take_ofW HT_.out HW_.out (by kernel_rfl))
    (hQ : ∀ c a w, Q (.panic c) (a.put oi.dst v) w → Q (.panic c) a w := by exact fun _ _ _ h => h) (hy : YieldsIf P ops S oi v a := by (refine Or.inl ⟨by rfl, ?_⟩; rintro w' ⟨⟨s0, s1⟩, s2⟩; go_simp; with_reducible rfl)) (hS : S w := by exact hHeld) (ha : a.put N v = a' := by (simp only [Act.put, List.setIfInBounds_toArray, List.set_cons_zero, List.set_cons_succ, i64_w, i32_w]; rfl)) :
    wpAnyLast P .any ops Q S ds (fuel + 1) l a w := take_ (bA n m) hi hN hc hQ hy hS ha h
theorem tH_ (i : Nat) (N : Option Tmp) (n m : Nat) {oi : Oper} {v : Value} {fuel : Nat} {l : Array Bool} {a : Act} {w : World} {a' : Act} (h : wpAnyLast P .any ops Q S ds fuel (bA n m) a' w)
    (hi : ops[i]? = some oi := by rfl) (hN : oi.dst = N := by rfl) (hc : takeB .any ops ds l (bA n m) i = true := by exact take_ofW HT_.out HW_.out (by kernel_rfl))
    (hQ : ∀ c a w, Q (.panic c) (a.put oi.dst v) w → Q (.panic c) a w := by exact fun _ _ _ h => h) (hy : YieldsIf P ops S oi v a := by (refine Or.inl ⟨by rfl, ?_⟩; rintro w' ⟨⟨s0, s1⟩, s2, s3⟩; go_simp; with_reducible rfl)) (hS : S w := by exact hHeld) (ha : a.put N v = a' := by (simp only [Act.put, List.setIfInBounds_toArray, List.set_cons_zero, List.set_cons_succ, i64_w, i32_w]; rfl)) :
    wpAnyLast P .any ops Q S ds (fuel + 1) l a w := take_ (bA n m) hi hN hc hQ hy hS ha h
theorem tI_ (i : Nat) (N : Option Tmp) (n m : Nat) {oi : Oper} {v : Value} {fuel : Nat} {l : Array Bool} {a : Act} {w : World} {a' : Act} (h : wpAnyLast P .any ops Q S ds fuel (bA n m) a' w)
    (hi : ops[i]? = some oi := by rfl) (hN : oi.dst = N := by rfl) (hc : takeB .any ops ds l (bA n m) i = true := by exact take_ofW HT_.out HW_.out (by kernel_rfl))
    (hQ : ∀ c a w, Q (.panic c) (a.put oi.dst v) w → Q (.panic c) a w := by exact fun _ _ _ h => h) (hy : YieldsIf P ops S oi v a := by (refine Or.inl ⟨by rfl, ?_⟩; intro w' s0; go_simp; with_reducible rfl)) (hS : S w := by exact hHeld) (ha : a.put N v = a' := by (simp only [Act.put, List.setIfInBounds_toArray, List.set_cons_zero, List.set_cons_succ, i64_w, i32_w]; rfl)) :
    wpAnyLast P .any ops Q S ds (fuel + 1) l a w := take_ (bA n m) hi hN hc hQ hy hS ha h
theorem tJ_ (i : Nat) (N : Option Tmp) (n m : Nat) {oi : Oper} {v : Value} {fuel : Nat} {l : Array Bool} {a : Act} {w : World} {a' : Act} (h : wpAnyLast P .any ops Q S ds fuel (bA n m) a' w)
    (hi : ops[i]? = some oi := by rfl) (hN : oi.dst = N := by rfl) (hc : takeB .any ops ds l (bA n m) i = true := by exact take_ofW HT_.out HW_.out (by kernel_rfl))
    (hQ : ∀ c a w, Q (.panic c) (a.put oi.dst v) w → Q (.panic c) a w := by exact fun _ _ _ h => h) (hy : YieldsIf P ops S oi v a := by (refine Or.inl ⟨by rfl, ?_⟩; rintro w' ⟨s0, s1, s2, s3, s4, s5⟩; go_simp; with_reducible rfl)) (hS : S w := by exact hHeld) (ha : a.put N v = a' := by (simp only [Act.put, List.setIfInBounds_toArray, List.set_cons_zero, List.set_cons_succ, i64_w, i32_w]; rfl)) :
    wpAnyLast P .any ops Q S ds (fuel + 1) l a w := take_ (bA n m) hi hN hc hQ hy hS ha h
theorem oA_ (i : Nat) (N : Option Tmp) (n m : Nat) {oi : Oper} {fuel : Nat} {l : Array Bool} {a : Act} {w : World}
    (h : ∀ K : Act → World → Prop, Shut (∀ a' w', S w' → (S w' → wpAnyLast P .any ops Q S ds fuel (bA n m) a' w') → K a' w') → if Region.wanted oi (yielded ops a.tmps) = true then Oper.wp P oi a w K Q else K (a.put N undef) w)
    (hi : ops[i]? = some oi := by rfl) (hN : oi.dst = N := by rfl) (hc : readyB .any ops l (bA n m) i = true := by exact one_of HT_.out (by kernel_rfl)) (hd : i ∉ ds := by decide) :
    wpAnyLast P .any ops Q S ds (fuel + 1) l a w := one_ (bA n m) hi hN hc hd h
theorem oL_ (i : Nat) (N : Option Tmp) (n m : Nat) {oi : Oper} {fuel : Nat} {l : Array Bool} {a : Act} {w : World}
    (h : ∀ K : Act → World → Prop, Shut (∀ a' w', wpAnyLast P .any ops Q S ds fuel (bA n m) a' w' → K a' w') → if Region.wanted oi (yielded ops a.tmps) = true then Oper.wp P oi a w K Q else K (a.put N undef) w)
    (hi : ops[i]? = some oi := by rfl) (hN : oi.dst = N := by rfl) (hc : readyB .any ops l (bA n m) i = true := by exact one_of HT_.out (by kernel_rfl)) (hd : i ∈ ds := by decide) :
    wpAnyLast P .any ops Q S ds (fuel + 1) l a w := last_ (bA n m) hi hN hc hd h
theorem bx_ {o : Oper} {rest : List Oper} {a : Act} {w0 W : World} {cs : Array Value} {t : TypeId}
    (h : ∀ g w1, Aside0 (w1.heap[g]? = some (.cells cs t (0, 0))) → Aside0 (w0.heap.size ≤ g) → Aside0 (Below w0.heap.size w0 w1) → wpList P ops Q rest (a.put o.dst (.pointer (some ⟨g, 0, none⟩))) w1)
    (HB_ : Below w0.heap.size w0 W := by repeat (first | (with_reducible first | exact HB.out | apply below_alloc | apply pw_below_drewN | apply below_drew1 | refine below_set ?_ (Aside0.out (by assumption))) | exact HB.out))
    (hgd : o.guard = none := by rfl) (hrun : (execOp a.eval o).run P W = .ok (.value (.pointer (some ⟨W.heap.size, 0, none⟩))) (W.alloc (.cells cs t (0, 0))) := by first | (go_simp; done) | (go_simp; rfl)) : wpList P ops Q (o :: rest) a W :=
  Kd.event_run hgd hrun (h _ _ ⟨blk_new W _⟩ ⟨below_size HB_⟩ ⟨below_step HB_ (below_alloc (Below.refl _ _) _)⟩)
theorem dA_ {l : Array Bool} {a : Act} {w : World} {n : Nat} (h : Q .normal a w) (hr : (Region.ready .any ops l == []) = true := by exact done_of HT_.out (by kernel_rfl)) : wpAnyLast P .any ops Q S ds n l a w := done_ hr h
theorem nA_ (N : Option Tmp) {d : Option Tmp} {v : Value} {fuel : Nat} {l : Array Bool} {a a' : Act} {w : World} (h : wpAnyLast P .any ops Q S ds fuel l a' w) (hN : d = N := by rfl) (ha : a.put N v = a' := by (simp only [Act.put, List.setIfInBounds_toArray, List.set_cons_zero, List.set_cons_succ, i64_w, i32_w]; rfl)) :
    wpAnyLast P .any ops Q S ds fuel l (a.put d v) w := norm_ (by rw [hN]; exact ha) h
end
theorem dd_ {p : Prop} (h : p := by first | exact ⟨rfl, _, World.drewN_drewN _ _ _⟩ | exact ⟨rfl, _, Eq.trans (World.drewN_drewN _ _ _) (congrArg (World.drewN _) (Nat.add_assoc _ _ _))⟩) : p := h
theorem bk_ {w W w1 : World} {g : Nat} {o : Obj} (B : Aside0 (w.heap[g]? = some o)) (hb : Below W.heap.size W w1) (h : W.heap[g]? = some o := by (with_reducible repeat (first | refine blk_drewN ?_ _ | refine blk_drew ?_ | refine blk_alloc ?_ _)); exact Aside0.out (by assumption)) : Aside0 (w1.heap[g]? = some o) := ⟨blk_below h hb⟩
theorem hB_ {w W0 W w1 : World} (B : Aside0 (Below w.heap.size w W0)) (hb : Below W.heap.size W w1) (h : Below w.heap.size w W := by repeat (first | (with_reducible first | exact HB.out | apply below_alloc | apply pw_below_drewN | apply below_drew1 | refine below_set ?_ (Aside0.out (by assumption))) | exact HB.out)) : Aside0 (Below w.heap.size w w1) := ⟨below_step h hb⟩
theorem cz1_ {w : World} {g : Nat} {t : TypeId} {v0 : Value} (h : w.heap[g]? = some (.cells #[v0] t (0, 0))) : w.cell? ⟨g, 0, none⟩ = some v0 ∧ w.frozen? ⟨g, 0, none⟩ = false :=
  ⟨(blk_cell h 0).trans rfl, blk_frozen h 0⟩
theorem cz2_ {w : World} {g : Nat} {t : TypeId} {v0 v1 : Value} (h : w.heap[g]? = some (.cells #[v0, v1] t (0, 0))) : w.cell? ⟨g, 0, none⟩ = some v0 ∧ w.cell? ⟨g, 1, none⟩ = some v1 ∧ w.frozen? ⟨g, 0, none⟩ = false ∧ w.frozen? ⟨g, 1, none⟩ = false :=
  ⟨(blk_cell h 0).trans rfl, (blk_cell h 1).trans rfl, blk_frozen h 0, blk_frozen h 1⟩
theorem cz3_ {w : World} {g : Nat} {t : TypeId} {v0 v1 v2 : Value} (h : w.heap[g]? = some (.cells #[v0, v1, v2] t (0, 0))) : w.cell? ⟨g, 0, none⟩ = some v0 ∧ w.cell? ⟨g, 1, none⟩ = some v1 ∧ w.cell? ⟨g, 2, none⟩ = some v2 ∧ w.frozen? ⟨g, 0, none⟩ = false ∧ w.frozen? ⟨g, 1, none⟩ = false ∧ w.frozen? ⟨g, 2, none⟩ = false :=
  ⟨(blk_cell h 0).trans rfl, (blk_cell h 1).trans rfl, (blk_cell h 2).trans rfl, blk_frozen h 0, blk_frozen h 1, blk_frozen h 2⟩
theorem cz4_ {w : World} {g : Nat} {t : TypeId} {v0 v1 v2 v3 : Value} (h : w.heap[g]? = some (.cells #[v0, v1, v2, v3] t (0, 0))) : w.cell? ⟨g, 0, none⟩ = some v0 ∧ w.cell? ⟨g, 1, none⟩ = some v1 ∧ w.cell? ⟨g, 2, none⟩ = some v2 ∧ w.cell? ⟨g, 3, none⟩ = some v3 ∧ w.frozen? ⟨g, 0, none⟩ = false ∧ w.frozen? ⟨g, 1, none⟩ = false ∧ w.frozen? ⟨g, 2, none⟩ = false ∧ w.frozen? ⟨g, 3, none⟩ = false :=
  ⟨(blk_cell h 0).trans rfl, (blk_cell h 1).trans rfl, (blk_cell h 2).trans rfl, (blk_cell h 3).trans rfl, blk_frozen h 0, blk_frozen h 1, blk_frozen h 2, blk_frozen h 3⟩
theorem b1_ {p : Prop} (h : p := by repeat (first | (with_reducible first | exact HB.out | apply below_alloc | apply pw_below_drewN | apply below_drew1 | refine below_set ?_ (Aside0.out (by assumption))) | exact HB.out)) : p := h
theorem b2_ {p : Prop} (h : p := by first | (with_reducible assumption) | assumption) : p := h
theorem b3_ {p : Prop} (h : p := by (try simp only [List.map_toArray, List.map_cons, List.map_nil]); first | done | rfl | (simp only [List.length_drop, List.length_take]; rfl)) : p := h
theorem b4_ {p : Prop} (h : p := by first | rfl | (simp [errW_none, errW_some] <;> rfl) | (simp [*, errW_none, errW_some] <;> rfl)) : p := h
theorem b5_ {p : Prop} (h : p := by first | rfl | (simp; done) | (simp [*]; done)) : p := h
theorem b6_ {p : Prop} (h : p := by repeat (first | (with_reducible first | exact HB.out | apply below_alloc | apply pw_below_drewN | apply below_drew1) | exact HB.out)) : p := h
theorem b7_ {p : Prop} (h : p := by (with_reducible repeat (first | apply Kd.S_alloc | apply Kd.S_drewN | apply Kd.S_drew)); exact HO500.out) : p := h
theorem b8_ {p : Prop} (h : p := by repeat (first | exact Drawn0.refl _ | apply Drawn0.step)) : p := h
theorem b9_ {p : Prop} (h : p := by (with_reducible repeat (first | apply Kd.R_alloc | apply Kd.R_drewN | apply Kd.R_drew)); exact HO_13.out) : p := h
theorem b10_ {p : Prop} (h : p := by (with_reducible repeat (first | apply Kd.R_alloc | apply Kd.R_drewN | apply Kd.R_drew)); exact Aside0.out (by assumption)) : p := h
theorem b11_ {p : Prop} (h : p := by (try simp only [List.map_toArray, List.map_cons, List.map_nil]); first | done | rfl) : p := h
theorem b12_ {p : Prop} (h : p := by (with_reducible repeat (first | refine blk_drewN ?_ _ | refine blk_drew ?_ | refine blk_alloc ?_ _)); exact BK517.out) : p := h
theorem b13_ {p : Prop} (h : p := by repeat (first | (with_reducible exact HR511_0.out) | (with_reducible refine Kd.C_alloc ?_ _) | (with_reducible refine Kd.C_drewN ?_ _) | (with_reducible refine Kd.C_drew ?_) | exact HR511_0.out)) : p := h
theorem b14_ {p : Prop} (h : p := by repeat (first | (with_reducible exact HR507_0.out) | (with_reducible refine Kd.C_alloc ?_ _) | (with_reducible refine Kd.C_drewN ?_ _) | (with_reducible refine Kd.C_drew ?_) | exact HR507_0.out)) : p := h
theorem b15_ {p : Prop} (h : p := by (with_reducible repeat (first | refine blk_drewN ?_ _ | refine blk_drew ?_ | refine blk_alloc ?_ _)); exact BK348.out) : p := h
theorem b16_ {p : Prop} (h : p := by (with_reducible repeat (first | apply Kd.R_alloc | apply Kd.R_drewN | apply Kd.R_drew)); exact HO_6.out) : p := h
theorem b17_ {p : Prop} (h : p := by (with_reducible repeat (first | refine blk_drewN ?_ _ | refine blk_drew ?_ | refine blk_alloc ?_ _)); exact BK258.out) : p := h
theorem b18_ {p : Prop} (h : p := by (with_reducible repeat (first | apply Kd.R_alloc | apply Kd.R_drewN | apply Kd.R_drew)); exact HO_7.out) : p := h
theorem b19_ {p : Prop} (h : p := by (with_reducible repeat (first | refine blk_drewN ?_ _ | refine blk_drew ?_ | refine blk_alloc ?_ _)); exact Aside0.out (by assumption)) : p := h
theorem b20_ {p : Prop} (h : p := by (with_reducible repeat (first | apply Kd.R_alloc | apply Kd.R_drewN | apply Kd.R_drew)); exact HO464.out) : p := h
theorem b21_ {p : Prop} (h : p := by have := HI.out; omega) : p := h
theorem b22_ {p : Prop} (h : p := by first | exact Kd.R_nil _ _ _ _ _ | exact Kd.N_nil _ _ _ _ _ | exact Kd.V_nil _ _ _ _ _ | exact Kd.Q_nil _ _ _ _ _ | exact Kd.S_nil _ _ _ _ _) : p := h
theorem b23_ {p : Prop} (h : p := by (with_reducible repeat (first | apply Kd.R_alloc | apply Kd.R_drewN | apply Kd.R_drew)); exact HO681.out) : p := h
theorem b24_ {p : Prop} (h : p := by (with_reducible repeat (first | apply Kd.S_alloc | apply Kd.S_drewN | apply Kd.S_drew)); exact HO483.out) : p := h
theorem b25_ {p : Prop} (h : p := by (with_reducible repeat (first | apply Kd.R_alloc | apply Kd.R_drewN | apply Kd.R_drew)); exact HO_5.out) : p := h
theorem b26_ {p : Prop} (h : p := by first | omega | exact Nat.le_refl _) : p := h
theorem b27_ {p : Prop} (h : p := by (with_reducible repeat (first | refine blk_drewN ?_ _ | refine blk_drew ?_ | refine blk_alloc ?_ _)); exact BK303.out) : p := h
theorem b28_ {p : Prop} (h : p := by simp only [putAll, Act.put, List.setIfInBounds_toArray, List.set_cons_zero, List.set_cons_succ]) : p := h
theorem b29_ {p : Prop} (h : p := by (with_reducible repeat (first | refine blk_drewN ?_ _ | refine blk_drew ?_ | refine blk_alloc ?_ _)); exact BK418.out) : p := h
theorem b30_ {p : Prop} (h : p := by (with_reducible repeat (first | apply Kd.R_alloc | apply Kd.R_drewN | apply Kd.R_drew)); exact HO314.out) : p := h
theorem b31_ {p : Prop} (h : p := by first | exact q511 | exact of_decide_eq_true b2_ | (have e_ := (Kd.S_reads' HO500.out).1; omega)) : p := h
theorem b32_ {p : Prop} (h : p := by first | exact q507 | exact of_decide_eq_true b2_ | (have e_ := (Kd.S_reads' HO500.out).1; omega)) : p := h
theorem b33_ {p : Prop} (h : p := by (with_reducible repeat (first | apply Kd.S_alloc | apply Kd.S_drewN | apply Kd.S_drew)); exact HO_3.out) : p := h
theorem b34_ {p : Prop} (h : p := by have := HJ5.out; have := HJ18.out; have := HJ28.out; have := HK4.out; have := HJ51.out; first | omega | exact Nat.le_refl _) : p := h
theorem b35_ {p : Prop} (h : p := by have := HG.out.2; show g4 ≠ g5; omega) : p := h
theorem b36_ {p : Prop} (h : p := by (with_reducible repeat (first | refine blk_drewN ?_ _ | refine blk_drew ?_ | refine blk_alloc ?_ _)); exact BK671.out) : p := h
theorem b37_ {p : Prop} (h : p := by (with_reducible repeat (first | refine blk_drewN ?_ _ | refine blk_drew ?_ | refine blk_alloc ?_ _)); exact BK399.out) : p := h
theorem b38_ {p : Prop} (h : p := by (with_reducible repeat (first | refine blk_drewN ?_ _ | refine blk_drew ?_ | refine blk_alloc ?_ _)); exact BK439.out) : p := h
theorem b39_ {p : Prop} (h : p := by (with_reducible repeat (first | refine blk_drewN ?_ _ | refine blk_drew ?_ | refine blk_alloc ?_ _)); exact BK489.out) : p := h
theorem b40_ {p : Prop} (h : p := by (with_reducible repeat (first | refine blk_drewN ?_ _ | refine blk_drew ?_ | refine blk_alloc ?_ _)); exact BK473.out) : p := h
end Go.Proofs.Ytcgdbjojjpoegaa.P

/- Common words of this layer's walks. -/
namespace Go.Proofs.Ytcgdbjojjpoegaa.P
open Go.RowKit Go.Proofs.YtcgdbjojjpoegaaW.PrintWords Go.Proofs.YtcgdbjojjpoegaaW.PrintLast Go.Proofs.YtcgdbjojjpoegaaW.PrintMore
set_option linter.unusedVariables false
set_option linter.unusedSimpArgs false

/-- What is asked of a function value that answers a bool: it answers p x, and leaves what was there. -/
def PredB {α : Type} (g : Nat) (lb : Array Value) (enc : α → Value) (p : α → Bool) (w : World) : Prop :=
  ∀ (W : World) (x : α), Below w.heap.size w W → Calls Try.prog g (#[enc x] ++ lb) W fun e w' => e = .returned (.bool (p x)) ∧ Below W.heap.size W w'
def idxP {α : Type} (p : α → Bool) (l : List α) : Int := match l.findIdx? p with | some i => (i : Int) | none => -1
theorem idxP_hit {α : Type} (p : α → Bool) (l : List α) (i : Nat) (hi : i < l.length) (h0 : ∀ j (hj : j < l.length), j < i → p l[j] = false) (h1 : p l[i] = true) : idxP p l = (i : Int) := by
  have : l.findIdx? p = some i := by
    rw [List.findIdx?_eq_some_iff_getElem]
    exact ⟨hi, h1, fun j hj => by simp [h0 j (by omega) hj]⟩
  simp [idxP, this]
theorem idxP_miss {α : Type} (p : α → Bool) (l : List α) (h0 : ∀ j (hj : j < l.length), p l[j] = false) : idxP p l = -1 := by
  have : l.findIdx? p = none := by
    rw [List.findIdx?_eq_none_iff]
    intro x hx
    obtain ⟨j, hj, rfl⟩ := List.mem_iff_getElem.1 hx
    exact h0 j hj
  simp [idxP, this]
theorem idxP_any {α : Type} (p : α → Bool) (l : List α) : decide (0 ≤ idxP p l) = l.any p := by
  unfold idxP
  cases h : l.findIdx? p with
  | none =>
    have : l.any p = false := by
      rw [List.findIdx?_eq_none_iff] at h
      rw [List.any_eq_false]
      intro x hx; simpa using h x hx
    rw [this]; simp
  | some i => ?_
  have : l.any p = true := by
    rw [List.findIdx?_eq_some_iff_getElem] at h
    obtain ⟨hi, h1, _⟩ := h
    exact List.any_eq_true.2 ⟨l[i], List.getElem_mem hi, h1⟩
  rw [this]; simp
theorem rd_nat (l : List Int) (i : Nat) (hi : i < l.length) : rd l (i : Int) = l[i] := by
  simp [rd, hi]
theorem kdC_int {w : World} {b : Nat} (xs : List Int) (hl : xs.length ≤ 9223372036854775807) (h : ∀ j (hj : j < xs.length), w.cell? ⟨b, j, none⟩ = some (.int .i64 xs[j])) : Kd.C (Kd.int .i64) w (some ⟨b, 0, none⟩) xs.length xs :=
  Kd.C_of_reads (enc := Value.int .i64) (d := (0 : Int)) (h1 := fun _ => rfl) ⟨rfl, hl, fun _ => ⟨_, rfl, fun j hj => by
    have := h j hj
    have e : (⟨b, 0, none⟩ : Addr).add j = ⟨b, j, none⟩ := by simp [Addr.add]; intro h0; rw [h0]
    rw [e, this]
    simp [hj]⟩⟩
theorem kdC_one {w : World} {b : Nat} {x : Int} (h : w.cell? ⟨b, 0, none⟩ = some (.int .i64 x)) : Kd.C (Kd.int .i64) w (some ⟨b, 0, none⟩) 1 [x] :=
  kdC_int [x] (by simp) (fun j hj => by
    obtain rfl : j = 0 := by simp at hj; omega
    exact h)
theorem kdC_two {w : World} {b : Nat} {x y : Int} (h : w.cell? ⟨b, 0, none⟩ = some (.int .i64 x)) (h' : w.cell? ⟨b, 1, none⟩ = some (.int .i64 y)) : Kd.C (Kd.int .i64) w (some ⟨b, 0, none⟩) 2 [x, y] :=
  kdC_int [x, y] (by simp) (fun j hj => by
    rcases j with _ | _ | j
    · exact h
    · exact h'
    · exfalso; simp at hj; omega)
/-- all numbers from lo to hi -/
def withinB (lo hi : Int) (l : List Int) : Bool := l.all fun n => decide (lo ≤ n) && decide (n ≤ hi)
theorem withinB_eq (lo hi : Int) (l : List Int) : (!l.any fun n => decide (n < lo) || decide (hi < n)) = withinB lo hi l := by
  unfold withinB
  rw [List.all_eq_not_any_not]
  congr 1
  congr 1
  funext n
  rw [Bool.eq_iff_iff]
  simp
theorem bcell {w w1 : World} {B : Nat} (hb : Below B w w1) : (∀ b o, b < B → w1.cell? ⟨b, o, none⟩ = w.cell? ⟨b, o, none⟩) ∧ (∀ b o, b < B → w1.frozen? ⟨b, o, none⟩ = w.frozen? ⟨b, o, none⟩) :=
  ⟨fun b o h => hb.cell (p := ⟨b, o, none⟩) h, fun b o h => hb.frozen (p := ⟨b, o, none⟩) h⟩
theorem boxes2 (w : World) (o1 o2 : Obj) : Below w.heap.size w ((w.alloc o1).alloc o2) := ((Below.refl _ _).alloc (Nat.le_refl _) _).alloc (by simp) _
theorem box1 (w : World) (o1 : Obj) : Below w.heap.size w (w.alloc o1) := (Below.refl _ _).alloc (Nat.le_refl _) _
/-- a cell in a later world -/
theorem cell_in {w w1 : World} {a : Addr} {v : Value} (hb : Below w.heap.size w w1) (h : w.cell? a = some v) : w1.cell? a = some v :=
  (hb.cell (World.block_lt_of_cell? w a h)).trans h
theorem cell_in1 {w w1 : World} {o : Obj} {a : Addr} {v : Value} (hb : Below (w.alloc o).heap.size (w.alloc o) w1) (h : w.cell? a = some v) : w1.cell? a = some v :=
  cell_in hb (cell_in (box1 w o) h)
theorem cell_in2 {w w1 : World} {o o2 : Obj} {a : Addr} {v : Value} (hb : Below ((w.alloc o).alloc o2).heap.size ((w.alloc o).alloc o2) w1) (h : w.cell? a = some v) : w1.cell? a = some v :=
  cell_in hb (cell_in (boxes2 w o o2) h)
theorem size1 {w w1 : World} {o : Obj} (hb : Below (w.alloc o).heap.size (w.alloc o) w1) : w.heap.size < w1.heap.size := by
  have := hb.size; simp only [World.size_alloc] at this; omega
/-- Block b: cells of type t. -/
def Blk (W : World) (b : Nat) (t : TypeId) (cur : Array Value) : Prop := W.heap[b]? = some (.cells cur t (0, 0))
section
variable {W W' : World} {b : Nat} {t : TypeId} {cur : Array Value}
theorem Blk.lt (h : Blk W b t cur) : b < W.heap.size := (Array.getElem?_eq_some_iff.1 h).1
theorem Blk.cell (h : Blk W b t cur) (j : Nat) : W.cell? ⟨b, j, none⟩ = cur[j]? := by simp [World.cell?, show W.heap[b]? = _ from h]
theorem Blk.fz (h : Blk W b t cur) (j : Nat) : W.frozen? ⟨b, j, none⟩ = false := by simp [World.frozen?, show W.heap[b]? = _ from h]
theorem Blk.set (h : Blk W b t cur) (j : Nat) (v : Value) : Blk (W.setCell ⟨b, j, none⟩ v) b t (cur.setIfInBounds j v) := by
  obtain ⟨hlt, hk⟩ := Array.getElem?_eq_some_iff.1 h
  show (W.heap.modify b _)[b]? = _
  rw [Array.getElem?_eq_getElem (by rw [Array.size_modify]; exact hlt), Array.getElem_modify_self, hk]
  rfl
theorem Blk.kept {row : Option Nat} (h : Blk W b t cur) (hg : W.grownBy W' row) (hne : some b ≠ row) : Blk W' b t cur := (hg.block b h.lt hne).trans h
theorem Blk.below {B : Nat} (h : Blk W b t cur) (hb : Below B W W') (hB : b < B) : Blk W' b t cur := (hb.block b hB).trans h
theorem Blk.alloc (h : Blk W b t cur) (o : Obj) : Blk (W.alloc o) b t cur := h.kept (World.grownBy_alloc W o none) (by simp)
theorem Blk.new (W : World) (cur : Array Value) (t : TypeId) : Blk (W.alloc (.cells cur t)) W.heap.size t cur := World.alloc_heap_new W _
theorem Blk.other (h : Blk W b t cur) {p : Addr} (hp : b ≠ p.block) (v : Value) : Blk (W.setCell p v) b t cur := blk_far h hp v
theorem grown_set (W : World) (b j : Nat) (v : Value) : W.grownBy (W.setCell ⟨b, j, none⟩ v) (some b) :=
  ⟨rfl, rfl, rfl, (KeepsWalks.setCell W _ v).size, fun k _ hk => Below.heap_setCell _ _ _ k (fun e => hk (by rw [e]))⟩
theorem Blk.sets (vs : List Value) : ∀ (o : Nat) (W : World) (cur : Array Value), Blk W b t cur → o + vs.length ≤ cur.size →
    ∃ cur', Blk (W.setCells b o vs) b t cur' ∧ cur'.size = cur.size ∧ (∀ j, j < o → cur'[j]? = cur[j]?) ∧ (∀ j, j < vs.length → cur'[o + j]? = vs[j]?) ∧ (∀ j, o + vs.length ≤ j → cur'[j]? = cur[j]?) ∧ W.grownBy (W.setCells b o vs) (some b) := by
  induction vs with
  | nil => exact fun o W cur h _ => ⟨cur, h, rfl, fun _ _ => rfl, fun j hj => absurd hj (Nat.not_lt_zero _), fun _ _ => rfl, ⟨rfl, rfl, rfl, Nat.le_refl _, fun _ _ _ => rfl⟩⟩
  | cons v vs ih =>
    intro o W cur h hs
    simp only [List.length_cons] at hs
    obtain ⟨cur', h1, h2, h3, h4, h5, h6⟩ := ih (o + 1) _ _ (h.set o v) (by simp; omega)
    refine ⟨cur', h1, (by simpa using h2), fun j hj => ?_, fun j hj => ?_, fun j hj => ?_, (grown_set W b o v).trans h6⟩
    · rw [h3 j (by omega)]; simp [Array.getElem?_setIfInBounds]; omega
    · cases j with
      | zero =>
        rw [Nat.add_zero, h3 o (by omega)]
        simp [Array.getElem?_setIfInBounds]; omega
      | succ j => ?_
      have := h4 j (by simpa using hj)
      rw [show o + (j + 1) = o + 1 + j by omega, this]
      simp
    simp only [List.length_cons] at hj
    rw [h5 j (by omega)]; simp [Array.getElem?_setIfInBounds]; omega
end
/-- Block b is an array of cap cells of type t, the first of which hold the numbers ys. -/
structure RowC (W : World) (b : Nat) (t : TypeId) (cap : Nat) (ys : List Int) : Prop where
  ex : ∃ cur, Blk W b t cur ∧ cur.size = cap ∧ ∀ j (h : j < ys.length), cur[j]? = some (.int .i64 ys[j])
  le : ys.length ≤ cap
  cap_le : cap ≤ maxLen
section
variable {W W' : World} {b : Nat} {t : TypeId} {cap : Nat} {ys : List Int}
theorem RowC.lt (h : RowC W b t cap ys) : b < W.heap.size := by obtain ⟨cur, hb, _⟩ := h.ex; exact hb.lt
theorem RowC.cell (h : RowC W b t cap ys) (j : Nat) (hj : j < ys.length) : W.cell? ⟨b, j, none⟩ = some (.int .i64 ys[j]) := by
  obtain ⟨cur, hb, _, hc⟩ := h.ex; rw [hb.cell]; exact hc j hj
theorem RowC.fz (h : RowC W b t cap ys) (j : Nat) : W.frozen? ⟨b, j, none⟩ = false := by obtain ⟨cur, hb, _⟩ := h.ex; exact hb.fz j
theorem RowC.set (h : RowC W b t cap ys) (j : Nat) (hj : j < ys.length) (v : Int) : RowC (W.setCell ⟨b, j, none⟩ (.int .i64 v)) b t cap (ys.set j v) := by
  obtain ⟨cur, hb, hs, hc⟩ := h.ex
  refine ⟨⟨_, hb.set j _, (by simpa using hs), fun i hi => ?_⟩, (by simpa using h.le), h.cap_le⟩
  have hi' : i < ys.length := by simpa using hi
  rw [Array.getElem?_setIfInBounds, List.getElem_set]
  by_cases e : j = i
  rotate_left
  · simp [e]; exact hc i hi'
  subst e; have := h.le; simp [hs]; omega
theorem RowC.kept {row : Option Nat} (h : RowC W b t cap ys) (hg : W.grownBy W' row) (hne : some b ≠ row) : RowC W' b t cap ys := by
  obtain ⟨cur, hb, hs, hc⟩ := h.ex
  exact ⟨⟨cur, hb.kept hg hne, hs, hc⟩, h.le, h.cap_le⟩
theorem RowC.below {B : Nat} (h : RowC W b t cap ys) (hb : Below B W W') (hB : b < B) : RowC W' b t cap ys := by
  obtain ⟨cur, h1, hs, hc⟩ := h.ex
  exact ⟨⟨cur, h1.below hb hB, hs, hc⟩, h.le, h.cap_le⟩
theorem RowC.reads (h : RowC W b t cap ys) : Kd.C (Kd.int .i64) W (some ⟨b, 0, none⟩) ys.length ys :=
  kdC_int ys (by have := h.le; have := h.cap_le; unfold maxLen at *; omega) (fun j hj => h.cell j hj)
theorem RowC.take (h : RowC W b t cap ys) (m : Nat) : RowC W b t cap (ys.take m) := by
  obtain ⟨cur, hb, hs, hc⟩ := h.ex
  refine ⟨⟨cur, hb, hs, fun j hj => ?_⟩, (by have := h.le; simp; omega), h.cap_le⟩
  have hj' : j < ys.length := by simp at hj; omega
  rw [hc j hj']; simp
theorem RowC.own {base : Nat} (h : RowC W b t cap ys) (hb : base ≤ b) : W.ownsRow base t 1 (.slice (some ⟨b, 0, none⟩) ys.length cap) ys.length (ys.map (Value.int .i64)) := by
  obtain ⟨cur, hk, hs, hc⟩ := h.ex
  refine ⟨(by simp), .inr ⟨b, cap, cur, rfl, hb, hk, h.le, h.cap_le, (by omega), ?_⟩⟩
  apply List.ext_getElem
  · have := h.le; simp; omega
  intro i h1 h2
  have hi : i < ys.length := by simpa using h2
  have := hc i hi
  rw [Array.getElem?_eq_some_iff] at this
  obtain ⟨h3, h4⟩ := this
  simp [h4]
theorem RowC.of_own {base : Nat} {v : Value} {n : Nat} (h : W.ownsRow base t 1 v n (ys.map (Value.int .i64))) (hn : 0 < n) : ∃ b cap, v = .slice (some ⟨b, 0, none⟩) n cap ∧ base ≤ b ∧ ys.length = n ∧ RowC W b t cap ys := by
  obtain ⟨h1, ⟨rfl, h0⟩ | ⟨g, cap, cur, rfl, hg, hk, hle, hcm, hs, ht⟩⟩ := h
  · omega
  have hl : ys.length = n := by simpa using h1
  refine ⟨g, cap, rfl, hg, hl, ⟨⟨cur, hk, (by omega), fun j hj => ?_⟩, (by omega), hcm⟩⟩
  have : (cur.toList.take (n * 1))[j]? = (ys.map (Value.int .i64))[j]? := by rw [ht]
  rw [List.getElem?_take_of_lt (by omega)] at this
  simpa [hj] using this
end
theorem below_dN {B : Nat} {a w : World} (h : Below B a w) (q : Nat) : Below B a (w.drewN q) := ⟨h.os, h.tape, h.output, h.size, h.block⟩
/-- An append of which it is known what it does. -/
theorem append_run {P : Program} {ops : Array Oper} {rest : List Oper} {o : Oper} {a : Act} {Q : Exit → Act → World → Prop} {W : World} (hgd : o.guard = none) (s x : Operand) (t : TypeId)
    (hop : o.op = Op.call { callee := Callee.builtin Builtin.append, args := #[s, x], argTypes := #[t, t] }) (vs vx v' : Value) (w' : World) (hs : a.eval s = vs) (hx : a.eval x = vx)
    (hrun : ∀ ty, (Builtin.append_ #[t, t] ty #[vs, vx]).run P W = .ok v' w') (h : wpList P ops Q rest (a.put o.dst v') w') : wpList P ops Q (o :: rest) a W := by
  refine wpList_plain hgd fun K hK' => ?_
  unfold Oper.wp
  simp [execOp, hop, resolve, invoke, builtin, hs, hx, hrun, Result.andThen]
  exact hK' _ _ h
theorem below_grown {w W W' : World} {row : Option Nat} (h : Below w.heap.size w W) (hg : W.grownBy W' row) (hr : ∀ r, row = some r → w.heap.size ≤ r) : Below w.heap.size w W' :=
  ⟨hg.os.trans h.os, hg.tape.trans h.tape, hg.output.trans h.output, Nat.le_trans h.size hg.size, fun k hk => (hg.block k (Nat.lt_of_lt_of_le hk h.size) (fun e => by have := hr _ e.symm; omega)).trans (h.block k hk)⟩
theorem row_lit (w : World) (xs : List Int) (t : TypeId) (cs : Array Value) (hcs : cs = (xs.map (Value.int .i64)).toArray) (hn : xs.length ≤ 1000) : RowC (w.alloc (.cells cs t)) w.heap.size t xs.length xs := by
  subst hcs
  refine ⟨⟨_, Blk.new w _ t, (by simp), fun j hj => by simp [hj]⟩, Nat.le_refl _, ?_⟩
  have : maxLen = 9223372036854775807 := rfl
  omega
theorem alloc_step {W W' : World} {o : Obj} (hb : Below (W.alloc o).heap.size (W.alloc o) W') : Below W.heap.size W W' := (below_alloc (Below.refl W.heap.size W) o).trans (hb.mono (by simp))
theorem drawn_below {W W' : World} (h : Drawn0 W W') : Below W.heap.size W W' := by
  obtain ⟨n, rfl⟩ := h.out
  exact below_dN (Below.refl _ _) n
/-- A slice that is read. -/
structure Rd {α : Type} (d : Kd α) (W : World) (A : Option Addr) (n c : Nat) (l : List α) : Prop where
  hn : n = l.length
  hc : n ≤ c
  C : d.C W A l.length l
theorem Rd.of {α : Type} {d : Kd α} {e : TypeId} {w : World} {b : Nat} {ok : Nat → Prop} {A : Option Addr} {n c : Nat} {xs : List α} (h : d.R e w b ok (.slice A n c) xs) : Rd d w A n c xs :=
  ⟨(Kd.R_reads' h).1, (Kd.R_reads' h).2.1, (Kd.R_reads' h).2.2⟩
theorem Rd.below {α : Type} {d : Kd α} {w W : World} {A : Option Addr} {n c : Nat} {xs : List α} (h : Rd d w A n c xs) (hb : Below w.heap.size w W) : Rd d W A n c xs := ⟨h.hn, h.hc, Kd.C_below h.C hb⟩
theorem own_below {W W' : World} {base e size n : Nat} {v : Value} {xs : List Value} (h : W.ownsRow base e size v n xs) (hb : Below W.heap.size W W') : W'.ownsRow base e size v n xs := h.kept (grown_of_below hb none) (by
  rcases h.2 with ⟨rfl, _⟩ | ⟨g, cap, cur, rfl, _⟩
  · exact .inl rfl
  · exact .inr (by simp [Value.ownBlock]))
theorem own_form {W : World} {base e size n : Nat} {v : Value} {xs : List Value} (h : W.ownsRow base e size v n xs) (hv : v ≠ .slice none 0 0) : ∃ g c, v = .slice (some ⟨g, 0, none⟩) n c ∧ base ≤ g ∧ g < W.heap.size := by
  obtain ⟨h1, ⟨h0, _⟩ | ⟨g, cap, cur, rfl, hg, hh, hle, hcm, hs, ht⟩⟩ := h
  · exact absurd h0 hv
  exact ⟨g, cap, rfl, hg, blk_lt hh⟩
theorem own_far {W : World} {base e size n g c : Nat} {xs : List Value} (h : W.ownsRow base e size (.slice (some ⟨g, 0, none⟩) n c) n xs) {p : Addr} (hp : g ≠ p.block) (u : Value) : (W.setCell p u).ownsRow base e size (.slice (some ⟨g, 0, none⟩) n c) n xs := by
  obtain ⟨h1, ⟨h0, _⟩ | ⟨g', cap, cur, h0, hg, hh, hle, hcm, hs, ht⟩⟩ := h
  · cases h0
  injection h0 with e1 e2 e3
  injection e1 with e1
  injection e1 with e1 _ _
  subst e1 e3
  exact ⟨h1, .inr ⟨g, c, cur, rfl, hg, blk_far hh hp u, hle, hcm, hs, ht⟩⟩
section
variable {P : Program} {ops : Array Oper} {o : Oper} {a : Act} {Q : Exit → Act → World → Prop} {Kc : Act → World → Prop}
theorem append_step {W : World} (hw : Region.wanted o (yielded ops a.tmps) = true) (s x : Operand) (t : TypeId)
    (hop : o.op = Op.call { callee := Callee.builtin Builtin.append, args := #[s, x], argTypes := #[t, t] }) (vs vx v' : Value) (w' : World) (hs : a.eval s = vs) (hx : a.eval x = vx)
    (hrun : ∀ ty, (Builtin.append_ #[t, t] ty #[vs, vx]).run P W = .ok v' w') (h : Kc (a.put o.dst v') w') : if Region.wanted o (yielded ops a.tmps) = true then Oper.wp P o a W Kc Q else Kc (a.put o.dst undef) W :=
  event_step hw (by simp [execOp, hop, resolve, invoke, builtin, hs, hx, hrun]) h
end
end Go.Proofs.Ytcgdbjojjpoegaa.P

namespace Go.Proofs.Ytcgdbjojjpoegaa.P
open Go.RowKit Go.Proofs.YtcgdbjojjpoegaaW.PrintWords Go.Proofs.YtcgdbjojjpoegaaW.PrintLast Go.Proofs.YtcgdbjojjpoegaaW.PrintMore
set_option linter.unusedVariables false
set_option linter.unusedSimpArgs false

def enc54 (m : S54) : Value := .agg #[.int .i64 m.f0, .int .i64 m.f1]
theorem rd_T54_nat (l : List S54) (i : Nat) (hi : i < l.length) : rd_T54 l (i : Int) = l[i] := by
  simp [rd_T54, hi]

set_option maxHeartbeats 1000000 in
set_option maxRecDepth 100000 in
theorem IndexFunc60 (g : Nat) (lb : Array Value) (p : Int → Bool) (A : Option Addr) (c : Nat) (l : List (Int)) (w : World)
    (eg : ∀ args w, (callFunc g args).run Try.prog w = .ok (.enter g args) w)
    (hr : Kd.C (Kd.int .i64) w A l.length l) (hp : PredB g lb (Value.int .i64) p w) :
    Calls Try.prog 60 #[.slice A l.length c, .func (.func g) #[] lb] w fun e w' => e = .returned (.int .i64 (idxP p l)) ∧ Below w.heap.size w w' := by
  have HR0 := Aside0.mk hr
  have HP := Aside0.mk hp
  have HL := Aside0.mk hr.2.1
  clear hr hp
  go_enter Try.func60, Try.ntmps60
  go_wp2
  go_loopg [8] l.length (fun kq v8 w' => ∃ i : Nat, v8 = .int .i64 i ∧ Aside0 (i + kq = l.length) ∧ Aside0 (∀ j (hj : j < l.length), j < i → p l[j] = false) ∧ Aside0 (Below w.heap.size w w'))
  case atStart => exact ⟨0, rfl, ⟨(by omega)⟩, ⟨fun j hj h => absurd h (by omega)⟩, ⟨Below.refl _ _⟩⟩
  obtain ⟨i, rfl, HI, HN, HB⟩ := hrel
  cases gk with
  | zero =>
    have hi : i = l.length := by have := HI.out; omega
    have hlt : decide (i < l.length) = false := by rw [hi]; simp
    go_wp2
    go_ret
    refine ⟨?_, HB.out⟩
    rw [idxP_miss p l (fun j hj => HN.out j hj (by omega))]
    rfl
  | succ k1 => ?_
  have hi : i < l.length := by have := HI.out; omega
  have hlt : decide (i < l.length) = true := by simp [hi]
  have hC := Kd.C_below HR0.out HB.out
  obtain ⟨ad, e0, hc0⟩ := Kd.at_int hC (i : Int) (by omega) (by omega)
  cases e0
  rw [Int.toNat_natCast] at hc0
  have hpp := Lib.hid (HP.out wr (rd l (i : Int)) HB.out)
  have hle := HL.out
  clear hC
  go_wp2_with (go_at_fn g; refine (hpp.out).mono ?_; rintro e w' ⟨rfl, hb⟩)
  · have hpx : p (rd l (i : Int)) = true := by assumption
    have hpi : p l[i] = true := by rwa [rd_nat l i hi] at hpx
    go_ret
    exact ⟨(by rw [idxP_hit p l i hi (fun j hj h => HN.out j hj h) hpi]; rfl), HB.out.trans (hb.mono HB.out.size)⟩
  have hpx : p (rd l (i : Int)) = false := by assumption
  have hpi : p l[i] = false := by rwa [rd_nat l i hi] at hpx
  go_roundg k1
  case rel => exact ⟨i + 1, (by go_num), ⟨b21_⟩, ⟨fun j hj h => by
    by_cases e : j = i
    · subst e; exact hpi
    · exact HN.out j hj (by omega)⟩, ⟨HB.out.trans (hb.mono HB.out.size)⟩⟩
  case measure => omega

set_option maxHeartbeats 400000 in
set_option maxRecDepth 100000 in
theorem ContainsFunc78 (g : Nat) (lb : Array Value) (p : Int → Bool) (A : Option Addr) (c : Nat) (l : List (Int)) (w : World)
    (eg : ∀ args w, (callFunc g args).run Try.prog w = .ok (.enter g args) w)
    (hr : Kd.C (Kd.int .i64) w A l.length l) (hp : PredB g lb (Value.int .i64) p w) :
    Calls Try.prog 78 #[.slice A l.length c, .func (.func g) #[] lb] w fun e w' => e = .returned (.bool (l.any p)) ∧ Below w.heap.size w w' := by
  have H := Lib.hid (IndexFunc60 g lb p A c l w eg hr hp)
  have HQ := Lib.hid (idxP_any p l)
  clear hr hp eg
  go_enter Try.func78, Try.ntmps78
  go_wp2_with (go_at_call 60; refine (H.out).mono ?_; rintro e w' ⟨rfl, hb⟩)
  go_ret
  exact ⟨(by rw [← HQ.out]; rfl), hb⟩

set_option maxHeartbeats 1000000 in
set_option maxRecDepth 100000 in
theorem IndexFunc82 (g : Nat) (lb : Array Value) (p : S54 → Bool) (A : Option Addr) (c : Nat) (l : List (S54)) (w : World)
    (eg : ∀ args w, (callFunc g args).run Try.prog w = .ok (.enter g args) w)
    (hr : Kd.C k54 w A l.length l) (hp : PredB g lb enc54 p w) :
    Calls Try.prog 82 #[.slice A l.length c, .func (.func g) #[] lb] w fun e w' => e = .returned (.int .i64 (idxP p l)) ∧ Below w.heap.size w w' := by
  have HR0 := Aside0.mk hr
  have HP := Aside0.mk hp
  have HL := Aside0.mk hr.2.1
  clear hr hp
  go_enter Try.func82, Try.ntmps82
  go_wp2
  go_loopg [8] l.length (fun kq v8 w' => ∃ i : Nat, v8 = .int .i64 i ∧ Aside0 (i + kq = l.length) ∧ Aside0 (∀ j (hj : j < l.length), j < i → p l[j] = false) ∧ Aside0 (Below w.heap.size w w'))
  case atStart => exact ⟨0, rfl, ⟨(by omega)⟩, ⟨fun j hj h => absurd h (by omega)⟩, ⟨Below.refl _ _⟩⟩
  obtain ⟨i, rfl, HI, HN, HB⟩ := hrel
  cases gk with
  | zero =>
    have hi : i = l.length := by have := HI.out; omega
    have hlt : decide (i < l.length) = false := by rw [hi]; simp
    go_wp2
    go_ret
    refine ⟨?_, HB.out⟩
    rw [idxP_miss p l (fun j hj => HN.out j hj (by omega))]
    rfl
  | succ k1 => ?_
  have hi : i < l.length := by have := HI.out; omega
  have hlt : decide (i < l.length) = true := by simp [hi]
  have hC := Kd.C_below HR0.out HB.out
  obtain ⟨ad, e0, hc0, hc1⟩ := at_T54 hC (i : Int) (by omega) (by omega)
  cases e0
  rw [Int.toNat_natCast] at hc0
  rw [Int.toNat_natCast] at hc1
  have hpp := Lib.hid (HP.out wr (rd_T54 l (i : Int)) HB.out)
  have hle := HL.out
  clear hC
  go_wp2_with (go_at_fn g; refine (hpp.out).mono ?_; rintro e w' ⟨rfl, hb⟩)
  · have hpx : p (rd_T54 l (i : Int)) = true := by assumption
    have hpi : p l[i] = true := by rwa [rd_T54_nat l i hi] at hpx
    go_ret
    exact ⟨(by rw [idxP_hit p l i hi (fun j hj h => HN.out j hj h) hpi]; rfl), HB.out.trans (hb.mono HB.out.size)⟩
  have hpx : p (rd_T54 l (i : Int)) = false := by assumption
  have hpi : p l[i] = false := by rwa [rd_T54_nat l i hi] at hpx
  go_roundg k1
  case rel => exact ⟨i + 1, (by go_num), ⟨b21_⟩, ⟨fun j hj h => by
    by_cases e : j = i
    · subst e; exact hpi
    · exact HN.out j hj (by omega)⟩, ⟨HB.out.trans (hb.mono HB.out.size)⟩⟩
  case measure => omega

set_option maxHeartbeats 400000 in
set_option maxRecDepth 100000 in
theorem ContainsFunc55 (g : Nat) (lb : Array Value) (p : S54 → Bool) (A : Option Addr) (c : Nat) (l : List (S54)) (w : World)
    (eg : ∀ args w, (callFunc g args).run Try.prog w = .ok (.enter g args) w)
    (hr : Kd.C k54 w A l.length l) (hp : PredB g lb enc54 p w) :
    Calls Try.prog 55 #[.slice A l.length c, .func (.func g) #[] lb] w fun e w' => e = .returned (.bool (l.any p)) ∧ Below w.heap.size w w' := by
  have H := Lib.hid (IndexFunc82 g lb p A c l w eg hr hp)
  have HQ := Lib.hid (idxP_any p l)
  clear hr hp eg
  go_enter Try.func55, Try.ntmps55
  go_wp2_with (go_at_call 82; refine (H.out).mono ?_; rintro e w' ⟨rfl, hb⟩)
  go_ret
  exact ⟨(by rw [← HQ.out]; rfl), hb⟩
end Go.Proofs.Ytcgdbjojjpoegaa.P

namespace Go.Proofs.Ytcgdbjojjpoegaa.P
open Go.RowKit Go.Proofs.YtcgdbjojjpoegaaW.PrintWords Go.Proofs.YtcgdbjojjpoegaaW.PrintLast Go.Proofs.YtcgdbjojjpoegaaW.PrintMore
set_option linter.unusedVariables false
set_option linter.unusedSimpArgs false

/-- What is asked of a function value that answers a bool to a row of numbers. -/
def PredS (g : Nat) (lb : Array Value) (p : List Int → Bool) (w : World) : Prop :=
  ∀ (W : World) (A : Option Addr) (c : Nat) (x : List Int), Below w.heap.size w W → x.length ≤ c → Kd.C (Kd.int .i64) W A x.length x → Calls Try.prog g (#[.slice A x.length c] ++ lb) W fun e w' => e = .returned (.bool (p x)) ∧ Below W.heap.size W w'
theorem rd_L2_nat (l : List (List Int)) (i : Nat) (hi : i < l.length) : rd_L2 l (i : Int) = l[i] := by
  simp [rd_L2, hi]
/-- .. to a part, by its weight. -/
def PredW (g : Nat) (lb : Array Value) (p : S71 → Bool) (w : World) : Prop :=
  ∀ (W : World) (x : S71) (v : Value), Below w.heap.size w W → Calls Try.prog g (#[.agg #[.int .i64 x.f0, v]] ++ lb) W fun e w' => e = .returned (.bool (p x)) ∧ Below W.heap.size W w'
theorem rd_T71_nat (l : List S71) (i : Nat) (hi : i < l.length) : rd_T71 l (i : Int) = l[i] := by
  simp [rd_T71, hi]

set_option maxHeartbeats 1000000 in
set_option maxRecDepth 100000 in
theorem IndexFunc86 (g : Nat) (lb : Array Value) (p : List Int → Bool) (A : Option Addr) (c : Nat) (l : List (List Int)) (w : World)
    (eg : ∀ args w, (callFunc g args).run Try.prog w = .ok (.enter g args) w)
    (hr : Kd.C (Kd.slice 2 (Kd.int .i64)) w A l.length l) (hp : PredS g lb p w) :
    Calls Try.prog 86 #[.slice A l.length c, .func (.func g) #[] lb] w fun e w' => e = .returned (.int .i64 (idxP p l)) ∧ Below w.heap.size w w' := by
  have HR0 := Aside0.mk hr
  have HP := Aside0.mk hp
  have HL := Aside0.mk hr.2.1
  clear hr hp
  go_enter Try.func86, Try.ntmps86
  go_wp2
  go_loopg [8] l.length (fun kq v8 w' => ∃ i : Nat, v8 = .int .i64 i ∧ Aside0 (i + kq = l.length) ∧ Aside0 (∀ j (hj : j < l.length), j < i → p l[j] = false) ∧ Aside0 (Below w.heap.size w w'))
  case atStart => exact ⟨0, rfl, ⟨(by omega)⟩, ⟨fun j hj h => absurd h (by omega)⟩, ⟨Below.refl _ _⟩⟩
  obtain ⟨i, rfl, HI, HN, HB⟩ := hrel
  cases gk with
  | zero =>
    have hi : i = l.length := by have := HI.out; omega
    have hlt : decide (i < l.length) = false := by rw [hi]; simp
    go_wp2
    go_ret
    refine ⟨?_, HB.out⟩
    rw [idxP_miss p l (fun j hj => HN.out j hj (by omega))]
    rfl
  | succ k1 => ?_
  have hi : i < l.length := by have := HI.out; omega
  have hlt : decide (i < l.length) = true := by simp [hi]
  have hC := Kd.C_below HR0.out HB.out
  obtain ⟨ad, A0, c0, e0, hc0, hle0, hC0⟩ := at_L2 hC (i : Int) (by omega) (by omega)
  cases e0
  rw [Int.toNat_natCast] at hc0
  have hpp := Lib.hid (HP.out wr A0 c0 (rd_L2 l (i : Int)) HB.out hle0 hC0)
  clear hC0
  have hle := HL.out
  clear hC
  go_wp2_with (go_at_fn g; refine (hpp.out).mono ?_; rintro e w' ⟨rfl, hb⟩)
  · have hpx : p (rd_L2 l (i : Int)) = true := by assumption
    have hpi : p l[i] = true := by rwa [rd_L2_nat l i hi] at hpx
    go_ret
    exact ⟨(by rw [idxP_hit p l i hi (fun j hj h => HN.out j hj h) hpi]; rfl), HB.out.trans (hb.mono HB.out.size)⟩
  have hpx : p (rd_L2 l (i : Int)) = false := by assumption
  have hpi : p l[i] = false := by rwa [rd_L2_nat l i hi] at hpx
  go_roundg k1
  case rel => exact ⟨i + 1, (by go_num), ⟨b21_⟩, ⟨fun j hj h => by
    by_cases e : j = i
    · subst e; exact hpi
    · exact HN.out j hj (by omega)⟩, ⟨HB.out.trans (hb.mono HB.out.size)⟩⟩
  case measure => omega
set_option maxHeartbeats 400000 in
set_option maxRecDepth 100000 in
theorem ContainsFunc62 (g : Nat) (lb : Array Value) (p : List Int → Bool) (A : Option Addr) (c : Nat) (l : List (List Int)) (w : World)
    (eg : ∀ args w, (callFunc g args).run Try.prog w = .ok (.enter g args) w)
    (hr : Kd.C (Kd.slice 2 (Kd.int .i64)) w A l.length l) (hp : PredS g lb p w) :
    Calls Try.prog 62 #[.slice A l.length c, .func (.func g) #[] lb] w fun e w' => e = .returned (.bool (l.any p)) ∧ Below w.heap.size w w' := by
  have H := Lib.hid (IndexFunc86 g lb p A c l w eg hr hp)
  have HQ := Lib.hid (idxP_any p l)
  clear hr hp eg
  go_enter Try.func62, Try.ntmps62
  go_wp2_with (go_at_call 86; refine (H.out).mono ?_; rintro e w' ⟨rfl, hb⟩)
  go_ret
  exact ⟨(by rw [← HQ.out]; rfl), hb⟩

set_option maxHeartbeats 1000000 in
set_option maxRecDepth 100000 in
theorem IndexFunc92 (g : Nat) (lb : Array Value) (p : S71 → Bool) (A : Option Addr) (c : Nat) (l : List (S71)) (w : World)
    (eg : ∀ args w, (callFunc g args).run Try.prog w = .ok (.enter g args) w)
    (hr : Kd.C k71 w A l.length l) (hp : PredW g lb p w) :
    Calls Try.prog 92 #[.slice A l.length c, .func (.func g) #[] lb] w fun e w' => e = .returned (.int .i64 (idxP p l)) ∧ Below w.heap.size w w' := by
  have HR0 := Aside0.mk hr
  have HP := Aside0.mk hp
  have HL := Aside0.mk hr.2.1
  clear hr hp
  go_enter Try.func92, Try.ntmps92
  go_wp2
  go_loopg [8] l.length (fun kq v8 w' => ∃ i : Nat, v8 = .int .i64 i ∧ Aside0 (i + kq = l.length) ∧ Aside0 (∀ j (hj : j < l.length), j < i → p l[j] = false) ∧ Aside0 (Below w.heap.size w w'))
  case atStart => exact ⟨0, rfl, ⟨(by omega)⟩, ⟨fun j hj h => absurd h (by omega)⟩, ⟨Below.refl _ _⟩⟩
  obtain ⟨i, rfl, HI, HN, HB⟩ := hrel
  cases gk with
  | zero =>
    have hi : i = l.length := by have := HI.out; omega
    have hlt : decide (i < l.length) = false := by rw [hi]; simp
    go_wp2
    go_ret
    refine ⟨?_, HB.out⟩
    rw [idxP_miss p l (fun j hj => HN.out j hj (by omega))]
    rfl
  | succ k1 => ?_
  have hi : i < l.length := by have := HI.out; omega
  have hlt : decide (i < l.length) = true := by simp [hi]
  have hC := Kd.C_below HR0.out HB.out
  obtain ⟨ad, A0, c0, e0, hc0, hc1, hle0, hC0⟩ := at_T71 hC (i : Int) (by omega) (by omega)
  cases e0
  rw [Int.toNat_natCast] at hc0 hc1
  have hpp := Lib.hid (HP.out wr (rd_T71 l (i : Int)) (.slice A0 (rd_T71 l (i : Int)).f1.length c0) HB.out)
  clear hC0
  have hle := HL.out
  clear hC
  go_wp2_with (go_at_fn g; refine (hpp.out).mono ?_; rintro e w' ⟨rfl, hb⟩)
  · have hpx : p (rd_T71 l (i : Int)) = true := by assumption
    have hpi : p l[i] = true := by rwa [rd_T71_nat l i hi] at hpx
    go_ret
    exact ⟨(by rw [idxP_hit p l i hi (fun j hj h => HN.out j hj h) hpi]; rfl), HB.out.trans (hb.mono HB.out.size)⟩
  have hpx : p (rd_T71 l (i : Int)) = false := by assumption
  have hpi : p l[i] = false := by rwa [rd_T71_nat l i hi] at hpx
  go_roundg k1
  case rel => exact ⟨i + 1, (by go_num), ⟨b21_⟩, ⟨fun j hj h => by
    by_cases e : j = i
    · subst e; exact hpi
    · exact HN.out j hj (by omega)⟩, ⟨HB.out.trans (hb.mono HB.out.size)⟩⟩
  case measure => omega
set_option maxHeartbeats 400000 in
set_option maxRecDepth 100000 in
theorem ContainsFunc73 (g : Nat) (lb : Array Value) (p : S71 → Bool) (A : Option Addr) (c : Nat) (l : List (S71)) (w : World)
    (eg : ∀ args w, (callFunc g args).run Try.prog w = .ok (.enter g args) w)
    (hr : Kd.C k71 w A l.length l) (hp : PredW g lb p w) :
    Calls Try.prog 73 #[.slice A l.length c, .func (.func g) #[] lb] w fun e w' => e = .returned (.bool (l.any p)) ∧ Below w.heap.size w w' := by
  have H := Lib.hid (IndexFunc92 g lb p A c l w eg hr hp)
  have HQ := Lib.hid (idxP_any p l)
  clear hr hp eg
  go_enter Try.func73, Try.ntmps73
  go_wp2_with (go_at_call 92; refine (H.out).mono ?_; rintro e w' ⟨rfl, hb⟩)
  go_ret
  exact ⟨(by rw [← HQ.out]; rfl), hb⟩
end Go.Proofs.Ytcgdbjojjpoegaa.P

namespace Go.Proofs.Ytcgdbjojjpoegaa.P
open Go.RowKit Go.Proofs.YtcgdbjojjpoegaaW.PrintWords Go.Proofs.YtcgdbjojjpoegaaW.PrintLast Go.Proofs.YtcgdbjojjpoegaaW.PrintMore
set_option linter.unusedVariables false
set_option linter.unusedSimpArgs false

set_option maxHeartbeats 400000 in
set_option maxRecDepth 100000 in
theorem within_lit (w : World) (b1 b2 : Nat) (lo hi : Int) (h1 : b1 < w.heap.size) (h2 : b2 < w.heap.size)
    (c1 : w.cell? ⟨b1, 0, none⟩ = some (.int .i64 lo)) (c2 : w.cell? ⟨b2, 0, none⟩ = some (.int .i64 hi)) :
    PredB 79 #[.pointer (some ⟨b1, 0, none⟩), .pointer (some ⟨b2, 0, none⟩)] (Value.int .i64) (fun n => decide (n < lo) || decide (hi < n)) w := by
  intro W x hb
  have d1 : W.cell? ⟨b1, 0, none⟩ = some (.int .i64 lo) := (hb.cell (p := ⟨b1, 0, none⟩) h1).trans c1
  have d2 : W.cell? ⟨b2, 0, none⟩ = some (.int .i64 hi) := (hb.cell (p := ⟨b2, 0, none⟩) h2).trans c2
  clear c1 c2 hb h1 h2
  show Calls Try.prog 79 #[.int .i64 x, .pointer (some ⟨b1, 0, none⟩), .pointer (some ⟨b2, 0, none⟩)] W _
  by_cases hx : x < lo
  · have t1 : decide (x < lo) = true := by simp [hx]
    go_enter Try.func79, Try.ntmps79
    go_wp2
    go_ret
    exact ⟨(by simp [t1]), Below.refl _ _⟩
  have t1 : decide (x < lo) = false := by simp [hx]
  go_enter Try.func79, Try.ntmps79
  go_wp2
  go_ret
  exact ⟨(by simp [t1]), Below.refl _ _⟩
set_option maxHeartbeats 400000 in
set_option maxRecDepth 100000 in
theorem within_calls (lo hi : Int) (A : Option Addr) (c : Nat) (l : List Int) (w : World)
    (hr : Kd.C (Kd.int .i64) w A l.length l) :
    Calls Try.prog 51 #[.int .i64 lo, .int .i64 hi, .slice A l.length c] w fun e w' => e = .returned (.bool (withinB lo hi l)) ∧ Below w.heap.size w w' := by
  have HB : Below w.heap.size w ((w.alloc (.cells #[.int .i64 lo] 2)).alloc (.cells #[.int .i64 hi] 2)) := ((Below.refl w.heap.size w).alloc (Nat.le_refl _) _).alloc (by simp) _
  have H := Lib.hid (ContainsFunc78 79 _ _ A c l _ (enters_of Try.func79 (by kernel_rfl) rfl) (Kd.C_below hr HB)
    (within_lit ((w.alloc (.cells #[.int .i64 lo] 2)).alloc (.cells #[.int .i64 hi] 2)) w.heap.size (w.heap.size + 1) lo hi (by simp; omega) (by simp) (by simp) (by simp)))
  have HQ := Lib.hid (withinB_eq lo hi l)
  have HB' := Lib.hid HB
  clear hr HB
  go_enter Try.func51, Try.ntmps51
  go_wp2_with (go_at_call 78; refine (H.out).mono ?_; rintro e w' ⟨rfl, hb⟩)
  go_ret
  exact ⟨(by rw [← HQ.out]; rfl), HB'.out.trans (hb.mono HB'.out.size)⟩
theorem within_one (lo hi x : Int) (b : Nat) (c : Nat) (w : World) (h : w.cell? ⟨b, 0, none⟩ = some (.int .i64 x)) :
    Calls Try.prog 51 #[.int .i64 lo, .int .i64 hi, .slice (some ⟨b, 0, none⟩) 1 c] w fun e w' => e = .returned (.bool (withinB lo hi [x])) ∧ Below w.heap.size w w' :=
  within_calls lo hi _ c [x] w (kdC_one h)
theorem within_two (lo hi x y : Int) (b : Nat) (c : Nat) (w : World) (h : w.cell? ⟨b, 0, none⟩ = some (.int .i64 x)) (h' : w.cell? ⟨b, 1, none⟩ = some (.int .i64 y)) :
    Calls Try.prog 51 #[.int .i64 lo, .int .i64 hi, .slice (some ⟨b, 0, none⟩) 2 c] w fun e w' => e = .returned (.bool (withinB lo hi [x, y])) ∧ Below w.heap.size w w' :=
  within_calls lo hi _ c [x, y] w (kdC_two h h')
def pole_within.f (a0 a1 : Int) (l2 : List Int) : Option Bool := some (withinB a0 a1 l2)
theorem pole_within.calls (a0 a1 : Int) (A2 : Option Addr) (c2 : Nat) (l2 : List Int) (r : Bool) (w : World) (hr2 : Kd.C (Kd.int .i64) w A2 l2.length l2) (hc2 : l2.length ≤ c2) (h : pole_within.f a0 a1 l2 = some r) :
    Calls Try.prog 51 #[.int .i64 a0, .int .i64 a1, .slice A2 l2.length c2] w fun e w' => e = .returned (.bool r) ∧ Below w.heap.size w w' := by
  injection h with h; subst h
  exact within_calls a0 a1 A2 c2 l2 w hr2
/-- a price that is not valid -/
def badPrice (p : S54) : Bool := !withinB 1 100000 [p.f1]
set_option maxHeartbeats 400000 in
set_option maxRecDepth 100000 in
theorem badPrice_lit (w : World) : PredB 56 #[] enc54 badPrice w := by
  intro W x hb
  clear hb
  rcases x with ⟨f, t⟩
  show Calls Try.prog 56 #[.agg #[.int .i64 f, .int .i64 t]] W _
  go_enter Try.func56, Try.ntmps56
  go_wp2_with fail
  refine (within_one _ _ t _ _ _ ?_).mono ?_
  focus (go_simp; done)
  rintro e w1 ⟨rfl, hb1⟩
  go_wp2
  go_ret
  exact ⟨rfl, Below.trans (((Below.refl W.heap.size W).alloc (Nat.le_refl _) _).alloc (by simp) _) (hb1.mono (by simp; omega))⟩
/-- prices whose minutes are not right: the first one is asked whether it is 0 -/
def badFrom : Bool → Int → List S54 → Bool
  | _, _, [] => false
  | first, next, p :: l => decide (p.f0 < next) || (first && decide (0 < p.f0)) || decide (2000 < p.f0) || badFrom false (p.f0 + 1) l
/-- what CheckSign answers -/
def signE (s : List S54) : Int := if s.length = 0 ∨ 30 < s.length then 6 else if badFrom true 0 s then 3 else if s.any badPrice then 22 else 0
theorem signE_many {s : List S54} (h : s.length = 0 ∨ 30 < s.length) : signE s = 6 := by rw [signE, if_pos h]
set_option maxHeartbeats 1000000 in
set_option maxRecDepth 100000 in
theorem checkSign_calls (A : Option Addr) (c : Nat) (l : List S54) (w : World) (hr : Kd.C k54 w A l.length l) :
    Calls Try.prog 20 #[.slice A l.length c] w fun e w' => e = .returned (.int .i64 (signE l)) ∧ Below w.heap.size w w' := by
  have HL := Lib.hid hr.2.1
  by_cases h0 : l.length = 0
  · have F := Lib.hid (signE_many (s := l) (.inl h0))
    have t1 : (l.length == 0) = true := by simp [h0]
    have t2 : ((l.length : Int) == 0) = true := by simp [h0]
    clear h0 hr
    go_enter Try.func20, Try.ntmps20
    go_wp2
    go_ret
    exact ⟨(by rw [F.out]; rfl), Below.refl _ _⟩
  have t1 : (l.length == 0) = false := by simp [h0]
  have t2 : ((l.length : Int) == 0) = false := beq_eq_false_iff_ne.mpr (by omega)
  by_cases h30 : 30 < l.length
  · have F := Lib.hid (signE_many (s := l) (.inr h30))
    have t3 : decide (30 < l.length) = true := decide_eq_true h30
    have t4 : decide (30 < (l.length : Int)) = true := decide_eq_true (by omega)
    clear h0 hr h30
    go_enter Try.func20, Try.ntmps20
    go_wp2
    go_ret
    exact ⟨(by rw [F.out]; rfl), Below.refl _ _⟩
  have t3 : decide (30 < l.length) = false := decide_eq_false h30
  have t4 : decide (30 < (l.length : Int)) = false := decide_eq_false (by omega)
  have F := Lib.hid (show signE l = if badFrom true 0 l then 3 else if l.any badPrice then 22 else 0 by rw [signE, if_neg (by omega)])
  have H0 := Lib.hid h0
  have H30 := Lib.hid h30
  have HR := Lib.hid hr
  clear h0 h30 hr
  go_enter Try.func20, Try.ntmps20
  go_wp2
  go_loopg [3, 16] l.length (fun kq v3 v16 w' => ∃ (i : Nat) (nx : Int), v3 = .int .i64 nx ∧ v16 = .int .i64 i ∧ Aside0 (i + kq = l.length) ∧ Aside0 (0 ≤ nx ∧ nx ≤ 2001) ∧ Aside0 (badFrom true 0 l = badFrom (i == 0) nx (l.drop i)) ∧ Aside0 (Below w.heap.size w w'))
  case atStart => exact ⟨0, 0, rfl, rfl, ⟨(by omega)⟩, ⟨(by omega)⟩, ⟨rfl⟩, ⟨Below.refl _ _⟩⟩
  obtain ⟨i, nx, rfl, rfl, HI, HX, HN, HB⟩ := hrel
  cases gk with
  | zero =>
    have hi : i = l.length := by have := HI.out; omega
    have hlt : decide (i < l.length) = false := by rw [hi]; simp
    have hlt2 : decide ((i : Int) < (l.length : Int)) = false := decide_eq_false (by omega)
    have hno : badFrom true 0 l = false := by rw [HN.out, List.drop_of_length_le (by omega)]; rfl
    have HNO := Lib.hid hno
    clear hi hno
    have HC := Lib.hid (ContainsFunc55 56 #[] badPrice A c l wr (enters_of Try.func56 (by kernel_rfl) rfl) (Kd.C_below HR.out HB.out) (badPrice_lit wr))
    cases hq : l.any badPrice
    · rw [hq] at HC
      have F2 := Lib.hid (show signE l = 0 by rw [F.out, HNO.out, hq]; rfl)
      clear hq
      go_wp2_with (go_at_call 55; refine (HC.out).mono ?_; rintro e w' ⟨rfl, hb⟩)
      go_ret
      exact ⟨(by rw [F2.out]; rfl), HB.out.trans (hb.mono HB.out.size)⟩
    rw [hq] at HC
    have F2 := Lib.hid (show signE l = 22 by rw [F.out, HNO.out, hq]; rfl)
    clear hq
    go_wp2_with (go_at_call 55; refine (HC.out).mono ?_; rintro e w' ⟨rfl, hb⟩)
    go_ret
    exact ⟨(by rw [F2.out]; rfl), HB.out.trans (hb.mono HB.out.size)⟩
  | succ k1 => ?_
  have hi : i < l.length := by have := HI.out; omega
  have hlt : decide (i < l.length) = true := by simp [hi]
  have hlt2 : decide ((i : Int) < (l.length : Int)) = true := decide_eq_true (by omega)
  have hC := Kd.C_below HR.out HB.out
  obtain ⟨ad, e0, hc0, hc1⟩ := at_T54 hC (i : Int) (by omega) (by omega)
  cases e0
  rw [Int.toNat_natCast, rd_T54_nat l i hi] at hc0 hc1
  have hstep : badFrom true 0 l = (decide (l[i].f0 < nx) || ((i == 0) && decide (0 < l[i].f0)) || decide (2000 < l[i].f0) || badFrom false (l[i].f0 + 1) (l.drop (i + 1))) := by
    rw [HN.out, List.drop_eq_getElem_cons hi]; rfl
  have HS := Lib.hid hstep
  obtain ⟨hx0, hx1⟩ := HX.out
  have hi30 : (i : Int) ≤ 30 := by have := H30.out; omega
  clear hC hstep
  generalize l[i].f1 = p1 at *
  generalize l[i].f0 = p0 at *
  by_cases c1 : p0 < nx
  · have q1 : decide (p0 < nx) = true := decide_eq_true c1
    have F2 := Lib.hid (show signE l = 3 by rw [F.out, HS.out, q1]; rfl)
    clear c1
    go_wp2
    go_ret
    exact ⟨(by rw [F2.out]; rfl), HB.out.trans (((Below.refl _ _).alloc (Nat.le_refl _) _).mono HB.out.size)⟩
  have q1 : decide (p0 < nx) = false := decide_eq_false c1
  by_cases c2 : i = 0 ∧ 0 < p0
  · have q2 : (i == 0) = true := by simp [c2.1]
    have q3 : ((i : Int) == 0) = true := by simp [c2.1]
    have q4 : decide (0 < p0) = true := decide_eq_true c2.2
    have F2 := Lib.hid (show signE l = 3 by rw [F.out, HS.out, q1, q2, q4]; rfl)
    clear c1 c2
    go_wp2
    go_ret
    exact ⟨(by rw [F2.out]; rfl), HB.out.trans (((Below.refl _ _).alloc (Nat.le_refl _) _).mono HB.out.size)⟩
  have q5 : ((i == 0) && decide (0 < p0)) = false := by
    rw [Bool.and_eq_false_iff, beq_eq_false_iff_ne, decide_eq_false_iff_not]
    omega
  by_cases c3 : 2000 < p0
  · have q6 : decide (2000 < p0) = true := decide_eq_true c3
    have F2 := Lib.hid (show signE l = 3 by rw [F.out, HS.out, q6]; simp)
    by_cases c4 : i = 0
    · have q2 : (i == 0) = true := by simp [c4]
      have q3 : ((i : Int) == 0) = true := by simp [c4]
      have q4 : decide (0 < p0) = false := decide_eq_false (fun h => c2 ⟨c4, h⟩)
      exfalso; exact c2 ⟨c4, (by omega)⟩
    have q2 : (i == 0) = false := by simp [c4]
    have q3 : ((i : Int) == 0) = false := beq_eq_false_iff_ne.mpr (by omega)
    clear c1 c2 c3 c4 q5
    go_wp2
    go_ret
    exact ⟨(by rw [F2.out]; rfl), HB.out.trans (((Below.refl _ _).alloc (Nat.le_refl _) _).mono HB.out.size)⟩
  have q6 : decide (2000 < p0) = false := decide_eq_false c3
  have HN2 := Lib.hid (show badFrom true 0 l = badFrom ((i + 1) == 0) (p0 + 1) (l.drop (i + 1)) by rw [HS.out, q1, q5, q6]; simp)
  have hp0 : 0 ≤ p0 := by omega
  have hp1 : p0 ≤ 2000 := by omega
  by_cases c4 : i = 0
  rotate_left
  · have q2 : (i == 0) = false := by simp [c4]
    have q3 : ((i : Int) == 0) = false := beq_eq_false_iff_ne.mpr (by omega)
    clear c1 c2 c3 c4 q5
    go_wp2
    go_roundg k1
    case rel => exact ⟨i + 1, p0 + 1, rfl, (by go_num), ⟨b21_⟩, ⟨(by omega)⟩, ⟨HN2.out⟩, ⟨HB.out.trans (((Below.refl _ _).alloc (Nat.le_refl _) _).mono HB.out.size)⟩⟩
    case measure => omega
  have q2 : (i == 0) = true := by simp [c4]
  have q3 : ((i : Int) == 0) = true := by simp [c4]
  have q4 : decide (0 < p0) = false := decide_eq_false (fun h => c2 ⟨c4, h⟩)
  clear c1 c2 c3 c4 q5
  go_wp2
  go_roundg k1
  case rel => exact ⟨i + 1, p0 + 1, rfl, (by go_num), ⟨b21_⟩, ⟨(by omega)⟩, ⟨HN2.out⟩, ⟨HB.out.trans (((Below.refl _ _).alloc (Nat.le_refl _) _).mono HB.out.size)⟩⟩
  case measure => omega
def pole_CheckSign.f (l0 : List S54) : Option Int := some (signE l0)
theorem pole_CheckSign.calls (A0 : Option Addr) (c0 : Nat) (l0 : List S54) (r : Int) (w : World) (hr0 : Kd.C k54 w A0 l0.length l0) (hc0 : l0.length ≤ c0) (h : pole_CheckSign.f l0 = some r) :
    Calls Try.prog 20 #[.slice A0 l0.length c0] w fun e w' => e = .returned (.int .i64 r) ∧ Below w.heap.size w w' := by
  injection h with h; subst h
  exact checkSign_calls A0 c0 l0 w hr0
end Go.Proofs.Ytcgdbjojjpoegaa.P

namespace Go.Proofs.Ytcgdbjojjpoegaa.P
open Go.RowKit Go.Proofs.YtcgdbjojjpoegaaW.PrintWords Go.Proofs.YtcgdbjojjpoegaaW.PrintLast Go.Proofs.YtcgdbjojjpoegaaW.PrintMore
attribute [local go_sem] max2_int min2_int max_two min_two max_three min_three max_four min_four   -- for this text's walks alone
set_option linter.unusedVariables false
set_option linter.unusedSimpArgs false

/-! ### pole_at: function 52 -/
def pole_at.l0 : Nat → List (S54) → Int → Int → Option (Int)
  | 0, _, _, _ => none
  | k + 1, x0, x1, x5 => if x5 > 0 then (if 0 ≤ x5 then (if x5 < (x0.length : Int) then (if ((rd_T54 x0 x5).f0) > x1 then (pole_at.l0 k x0 x1 (wrap64 (x5 - 1))) else (some x5)) else (none)) else (none)) else (some x5)
def pole_at.f (k : Nat) (l0 : List (S54)) (a1 : Int) : Option (Int) := pole_at.l0 k l0 a1 (wrap64 ((l0.length : Int) - 1))
set_option maxHeartbeats 8000000 in
set_option maxRecDepth 100000 in
theorem pole_at.calls (k : Nat) (A0 : Option Addr) (c0 : Nat) (l0 : List (S54)) (a1 : Int) (r : Int) (w : World) (hr0 : Kd.C k54 w A0 l0.length l0) (hc0 : l0.length ≤ c0) (h : pole_at.f k l0 a1 = some r) :
    Calls Try.prog 52 #[.slice A0 l0.length c0, .int .i64 a1] w fun e w' => e = .returned (.int .i64 r) ∧ Drawn0 w w' := by
  have HR0 := Aside0.mk hr0
  have HC0 := Aside0.mk hc0
  clear hr0 hc0
  have H : (pole_at.l0 k l0 a1 (wrap64 ((l0.length : Int) - 1))) = some r := h
  clear h
  have H' := Aside0.mk H
  clear H
  go_enter Try.func52, Try.ntmps52
  go_wp2
  go_loopg [5] k (fun kq v5 w' => ∃ (x5_1 : Int), v5 = .int .i64 x5_1 ∧ Aside0 (pole_at.l0 kq l0 a1 x5_1 = some r) ∧ Aside0 (kq ≤ k) ∧ Drawn0 w w')
  case atStart => exact ⟨(wrap64 ((l0.length : Int) - 1)), b5_, H', ⟨Nat.le_refl _⟩, b8_⟩
  clear H'
  try clear p2
  obtain ⟨x5_1, rfl, HA, HK1, ⟨m1, rfl⟩⟩ := hrel
  cases gk with
  | zero => exact absurd HA.out (by simp [pole_at.l0])
  | succ k1 => ?_
  have H := HA.out
  clear HA
  simp only [pole_at.l0] at H
  by_cases c3 : x5_1 > 0
  rotate_left
  · rw [if_neg c3] at H
    have c3b0 : decide (0 < x5_1) = false := decide_eq_false c3
    clear c3
    obtain rfl := Option.some.inj H
    go_wp2
    go_ret
    exact ⟨b5_, b8_⟩
  rw [if_pos c3] at H
  have c3b0 : decide (0 < x5_1) = true := decide_eq_true c3
  clear c3
  by_cases c4 : 0 ≤ x5_1
  rotate_left
  · rw [if_neg c4] at H
    exact absurd H (by simp)
  rw [if_pos c4] at H
  have c4b0 : decide (0 ≤ x5_1) = true := decide_eq_true c4
  clear c4
  by_cases c5 : x5_1 < (l0.length : Int)
  rotate_left
  · rw [if_neg c5] at H
    exact absurd H (by simp)
  rw [if_pos c5] at H
  have c5b0 : decide (x5_1 < (l0.length : Int)) = true := decide_eq_true c5
  clear c5
  by_cases c6 : ((rd_T54 l0 x5_1).f0) > a1
  rotate_left
  · rw [if_neg c6] at H
    have c6b0 : decide (a1 < ((rd_T54 l0 x5_1).f0)) = false := decide_eq_false c6
    clear c6
    obtain rfl := Option.some.inj H
    have p101 : 0 ≤ (x5_1 : Int) := of_decide_eq_true b2_
    have q101 : x5_1 < (l0.length : Int) := of_decide_eq_true b2_
    obtain ⟨ad101, e101, hx101_0, hx101_1⟩ := at_T54 HR0.out x5_1 p101 q101
    cases e101
    replace p101 := eq_true p101
    replace q101 := eq_true q101
    go_wp2
    go_ret
    exact ⟨b5_, b8_⟩
  rw [if_pos c6] at H
  have c6b0 : decide (a1 < ((rd_T54 l0 x5_1).f0)) = true := decide_eq_true c6
  clear c6
  have H' := Aside0.mk H
  clear H
  have p101 : 0 ≤ (x5_1 : Int) := of_decide_eq_true b2_
  have q101 : x5_1 < (l0.length : Int) := of_decide_eq_true b2_
  obtain ⟨ad101, e101, hx101_0, hx101_1⟩ := at_T54 HR0.out x5_1 p101 q101
  cases e101
  replace p101 := eq_true p101
  replace q101 := eq_true q101
  go_wp2
  go_roundg k1
  case measure => have := HK1.out; omega
  case rel => exact ⟨(wrap64 (x5_1 - 1)), b5_, H', ⟨(by have := HK1.out; omega)⟩, b8_⟩

end Go.Proofs.Ytcgdbjojjpoegaa.P

namespace Go.Proofs.Ytcgdbjojjpoegaa.P
open Go.RowKit Go.Proofs.YtcgdbjojjpoegaaW.PrintWords Go.Proofs.YtcgdbjojjpoegaaW.PrintLast Go.Proofs.YtcgdbjojjpoegaaW.PrintMore
set_option linter.unusedVariables false
set_option linter.unusedSimpArgs false

section
variable {P : Program} {ops : Array Oper} {Q : Exit → Act → World → Prop} {md : Region.Mode} {S : World → Prop} {ds : List Nat}
/-- A call of a function value out of a slot, by its contract. -/
theorem goesV_ {oi : Oper} {N : Option Tmp} {a : Act} {w : World} {K : Act → World → Prop} {f : FuncId} {t : Tmp} {os_ : Array Operand} {ts : Array TypeId} {lb : Array Value} (eg : ∀ args w, (callFunc f args).run P w = .ok (.enter f args) w) (args : Array Value)
    (hw : Region.wanted oi (yielded ops a.tmps) = true) (hN : oi.dst = N) (hop : oi.op = .call { callee := .value (.tmp t), args := os_, argTypes := ts }) (ht : a.eval (.tmp t) = .func (.func f) #[] lb) (hargs : os_.map a.eval = args)
    (h : Calls P f (args ++ lb) w fun e w' => ∃ v, e = .returned v ∧ K (a.put N v) w') : if Region.wanted oi (yielded ops a.tmps) = true then Oper.wp P oi a w K Q else K (a.put N undef) w := by
  refine call_ f (args ++ lb) hw hN ?_ h
  have ht' : a.eval (Operand.tmp t) = .func (.func f) #[] lb := ht
  unfold execOp
  simp [hop, resolve, ht', Deferred.ofValue, invoke, hargs, eg]
end
/-- l[1:], whatever its address. -/
theorem cut1_54 {W : World} {ad : Addr} {c : Nat} {l : List S54} (h : Kd.C k54 W (some ad) l.length l) (hp : 0 < l.length) (hc : l.length ≤ c) : ∃ ad2, (c = 1 ∧ ad2 = ad ∨ ¬ c = 1 ∧ ad.add 2 = ad2) ∧ Kd.C k54 W (some ad2) (l.length - 1) (l.drop 1) := by
  have := Kd.C_drop (m := 1) h (by omega) hc
  rw [List.length_drop] at this
  by_cases e : c = 1
  · rw [if_pos e] at this
    exact ⟨ad, .inl ⟨e, rfl⟩, this⟩
  rw [if_neg e] at this
  exact ⟨ad.add 2, .inr ⟨e, rfl⟩, this⟩
def minP (b y : S54) : S54 := if y.f1 < b.f1 then y else b
/-- the price with the least Cents, the first one of several -/
def leastP : List S54 → S54
  | [] => z54
  | x :: l => l.foldl minP x
set_option maxHeartbeats 400000 in
set_option maxRecDepth 100000 in
theorem cents_calls (x : S54) (W : World) : Calls Try.prog 81 #[enc54 x] W fun e w' => e = .returned (.int .i64 x.f1) ∧ Below W.heap.size W w' := by
  rcases x with ⟨f, t⟩
  show Calls Try.prog 81 #[.agg #[.int .i64 f, .int .i64 t]] W _
  go_enter Try.func81, Try.ntmps81
  go_wp2
  go_ret
  exact ⟨rfl, (Below.refl _ _).alloc (Nat.le_refl _) _⟩
theorem foldl_step {α β : Type} (f : β → α → β) (b : β) (l : List α) (i : Nat) (hi : i < l.length) : (l.take (i + 1)).foldl f b = f ((l.take i).foldl f b) l[i] := by
  rw [List.take_succ_eq_append_getElem hi, List.foldl_append]
  rfl
def leastP80.T5 : Bool × List (List Nat × List Nat) := (true, [([], []), ([], []), ([0, 1], [0, 1]), ([], []), ([], []), ([3, 4, 2], [3, 4]), ([2, 5], [2, 5])])
def leastP80.B5 : List Nat := [0, 0, 3, 0, 0, 31, 63]
theorem leastP80.tab5 : rtab .any (opsOf Try.f80 5) = leastP80.T5 := by kernel_rfl
theorem leastP80.bits5 : waitsOk leastP80.T5.2 leastP80.B5 = true := by kernel_rfl
set_option maxHeartbeats 2000000 in
set_option maxRecDepth 100000 in
theorem least80_calls (A : Option Addr) (c : Nat) (l : List S54) (w : World) (hr : Kd.C k54 w A l.length l) (hc : l.length ≤ c) (hp : 0 < l.length) :
    Calls Try.prog 80 #[.slice A l.length c, .func (.func 81) #[] #[]] w fun e w' => e = .returned (enc54 (leastP l)) ∧ Below w.heap.size w w' := by
  obtain ⟨ad, e0, hc0, hc1⟩ := at_T54 hr 0 (by omega) (by omega)
  cases e0
  obtain ⟨ad2, hsel, hC2⟩ := cut1_54 hr hp hc
  obtain ⟨x, l2, rfl⟩ : ∃ x l2, l = x :: l2 := by
    cases l with
    | nil => simp at hp
    | cons x l2 => exact ⟨x, l2, rfl⟩
  have hc0a : w.cell? (ad.add 0) = some (.int .i64 x.f0) := by simpa [rd_T54] using hc0
  have hc1a : w.cell? ⟨(ad.add 0).block, (ad.add 0).off + 1, none⟩ = some (.int .i64 x.f1) := by simpa [rd_T54] using hc1
  have eadd : ad.add 0 = ad := Addr.add_zero' ad
  rw [eadd] at hc0a hc1a
  have hb0 := World.block_lt_of_cell? w _ hc0a
  have hb1 : ¬ ad.block = w.heap.size := by omega
  have hL : (x :: l2).length ≤ 9223372036854775807 := hr.2.1
  have hcl1 : 1 ≤ c := by simp at hc; omega
  simp only [List.length_cons, List.drop_succ_cons, List.drop_zero, Nat.add_sub_cancel] at hC2 hL hc ⊢
  have HC2 := Lib.hid hC2
  have HC := Lib.hid hc
  have EG := enters_of (P := Try.prog) Try.func81 (by kernel_rfl) rfl
  clear hr hp hC2 hc0 hc1 hc
  go_enter Try.func80, Try.ntmps80
  go_upto_region 2 with (fail)
  have HW := Lib.hid (boxes2 w (.cells #[.int .i64 0, .int .i64 0] 54) (.cells #[.int .i64 x.f0, .int .i64 x.f1] 54))
  have B4 := blk_alloc (blk_new w (.cells #[.int .i64 0, .int .i64 0] 54)) (.cells #[.int .i64 x.f0, .int .i64 x.f1] 54)
  have B5 := blk_new (w.alloc (.cells #[.int .i64 0, .int .i64 0] 54)) (.cells #[.int .i64 x.f0, .int .i64 x.f1] 54)
  simp only [World.size_alloc] at B5
  replace B4 := Lib.hid B4
  replace B5 := Lib.hid B5
  generalize (w.alloc (.cells #[.int .i64 0, .int .i64 0] 54)).alloc (.cells #[.int .i64 x.f0, .int .i64 x.f1] 54) = W0 at *
  obtain ⟨g4, eg4⟩ : ∃ g, w.heap.size = g := ⟨_, rfl⟩
  rw [eg4] at B4 B5 ⊢
  obtain ⟨g5, eg5⟩ : ∃ g, g4 + 1 = g := ⟨_, rfl⟩
  rw [eg5] at B5 ⊢
  have HG := Lib.hid (show w.heap.size = g4 ∧ g4 < g5 from ⟨eg4, (by omega)⟩)
  clear hc0a hc1a eadd hb0 hb1 eg4 eg5
  rcases hsel with ⟨e1, e2⟩ | ⟨e1, e2⟩
  · subst e1
    subst e2
    go_wp2
    clear hcl1
    go_loopg [7, 14] l2.length (fun kq v7 v14 w' => ∃ (i : Nat) (b : S54), v14 = .int .i64 i ∧ Aside0 (i + kq = l2.length) ∧ Aside0 (b = (l2.take i).foldl minP x) ∧ Aside0 (w'.heap[g5]? = some (.cells #[.int .i64 b.f0, .int .i64 b.f1] 54 (0, 0))) ∧ Aside0 (w'.heap[g4]? = some (.cells #[.int .i64 0, .int .i64 0] 54 (0, 0))) ∧ Aside0 (Below w.heap.size w w'))
    case atStart => exact ⟨0, x, rfl, ⟨(by omega)⟩, ⟨rfl⟩, ⟨B5.out⟩, ⟨B4.out⟩, ⟨HW.out⟩⟩
    clear B4 B5 HW
    obtain ⟨i, b, rfl, HI, HM, B5, B4, HB⟩ := hrel
    cases gk with
    | zero =>
      have hi : i = l2.length := by have := HI.out; omega
      have hlt : decide (i < l2.length) = false := by rw [hi]; simp
      have hlt2 : decide ((i : Int) < (l2.length : Int)) = false := decide_eq_false (by omega)
      have hM : b = leastP (x :: l2) := by rw [HM.out, List.take_of_length_le (by omega)]; rfl
      have e0 : wr.cell? ⟨g5, 0, none⟩ = some (.int .i64 b.f0) := (blk_cell B5.out 0).trans rfl
      have e1 : wr.cell? ⟨g5, 1, none⟩ = some (.int .i64 b.f1) := (blk_cell B5.out 1).trans rfl
      have e2 : wr.cell? ⟨g4, 0, none⟩ = some (.int .i64 0) := (blk_cell B4.out 0).trans rfl
      have e3 : wr.cell? ⟨g4, 1, none⟩ = some (.int .i64 0) := (blk_cell B4.out 1).trans rfl
      have e4 := blk_frozen B4.out 0
      have e5 := blk_frozen B4.out 1
      have HM2 := Lib.hid hM
      clear hi hM
      go_wp2
      have B4' := blk_put (cs' := #[.int .i64 b.f0, .int .i64 b.f1]) (blk_put (cs' := #[.int .i64 b.f0, .int .i64 0]) B4.out 0 (.int .i64 b.f0) rfl) 1 (.int .i64 b.f1) rfl
      have r0 := (blk_cell B4' 0).trans (show (#[Value.int .i64 b.f0, Value.int .i64 b.f1] : Array Value)[0]? = some (.int .i64 b.f0) from rfl)
      have r1 := (blk_cell B4' 1).trans (show (#[Value.int .i64 b.f0, Value.int .i64 b.f1] : Array Value)[1]? = some (.int .i64 b.f1) from rfl)
      exact bodyPost_ret (v := enc54 b) (by simp [results, Try.results80, go_sem, enc54, r0, r1]) rfl ⟨(by rw [HM2.out]), by
        have h0 := HG.out.1
        rw [← h0]
        exact below_set (below_set HB.out (Nat.le_refl _)) (Nat.le_refl _)⟩
    | succ k1 => ?_
    have hi : i < l2.length := by have := HI.out; omega
    have hlt : decide (i < l2.length) = true := by simp [hi]
    have hlt2 : decide ((i : Int) < (l2.length : Int)) = true := decide_eq_true (by omega)
    have hC := Kd.C_below HC2.out HB.out
    obtain ⟨ad3, e0, hc0, hc1⟩ := at_T54 hC (i : Int) (by omega) (by omega)
    cases e0
    rw [Int.toNat_natCast, rd_T54_nat l2 i hi] at hc0 hc1
    have hblk := World.block_lt_of_cell? wr _ hc0
    have hblk2 : (ad2.add (i * 2)).block < wr.heap.size := hblk
    have hblk3 : ¬ (ad2.add (i * 2)).block = wr.heap.size := by omega
    have HS := Lib.hid (foldl_step minP x l2 i hi)
    clear hC
    generalize l2[i] = y at *
    go_upto_region 5 with (fail)
    have B7 := blk_new wr (.cells #[.int .i64 y.f0, .int .i64 y.f1] 54)
    have HB7 := below_alloc (Below.refl wr.heap.size wr) (.cells #[.int .i64 y.f0, .int .i64 y.f1] 54)
    have B5a := blk_below B5.out HB7
    have B4a := blk_below B4.out HB7
    have HB8 := Lib.hid (below_then HB.out HB.out.size HB7)
    clear hc0 hc1 hblk hblk2 hblk3 HB7
    generalize wr.alloc (.cells #[.int .i64 y.f0, .int .i64 y.f1] 54) = W1 at *
    generalize wr.heap.size = g7 at *
    obtain ⟨q, hq⟩ : ∃ q, decide (y.f1 < b.f1) = q := ⟨_, rfl⟩
    obtain ⟨Wd, ed⟩ : ∃ Wd, W1.drew = Wd := ⟨_, rfl⟩
    have hd : Below W1.heap.size W1 Wd := by rw [← ed]; exact below_drew (Below.refl _ _)
    refine sA_ 7 (fun w' => (w'.cell? ⟨g7, 0, none⟩ = some (.int .i64 y.f0) ∧ w'.cell? ⟨g7, 1, none⟩ = some (.int .i64 y.f1)) ∧ (w'.cell? ⟨g5, 0, none⟩ = some (.int .i64 b.f0) ∧ w'.cell? ⟨g5, 1, none⟩ = some (.int .i64 b.f1))) [] leastP80.tab5 leastP80.bits5 (by rw [ed]; exact ⟨⟨(blk_cell (blk_below B7 hd) 0).trans rfl, (blk_cell (blk_below B7 hd) 1).trans rfl⟩, ⟨(blk_cell (blk_below B5a hd) 0).trans rfl, (blk_cell (blk_below B5a hd) 1).trans rfl⟩⟩) (fun hHeld HT_ HW_ => ?_)
    rw [ed] at hHeld ⊢
    refine pA_ 0 (some 18) 7 1 ?_
    refine pA_ 3 (some 21) 7 9 ?_
    refine tH_ 1 (some 19) 7 11 ?_
    refine tH_ 4 (some 22) 7 27 ?_
    refine oA_ 2 (some 20) 7 31 (fun K hK => ?_)
    refine goesV_ EG #[enc54 y] (by rfl) rfl rfl (by rfl) b11_ ?_
    refine (cents_calls y Wd).mono ?_
    rintro e W2 ⟨rfl, hb⟩
    refine ⟨_, rfl, ?_⟩
    have hd2 := below_then hd hd.size hb
    refine hK.out _ _ ⟨⟨(blk_cell (blk_below B7 hd2) 0).trans rfl, (blk_cell (blk_below B7 hd2) 1).trans rfl⟩, ⟨(blk_cell (blk_below B5a hd2) 0).trans rfl, (blk_cell (blk_below B5a hd2) 1).trans rfl⟩⟩ (fun hHeld => ?_)
    clear hK K
    refine nA_ (some 20) ?_
    refine oA_ 5 (some 23) 7 63 (fun K hK => ?_)
    refine goesV_ EG #[enc54 b] (by rfl) rfl rfl (by rfl) b11_ ?_
    refine (cents_calls b W2).mono ?_
    rintro e W3 ⟨rfl, hb2⟩
    refine ⟨_, rfl, ?_⟩
    have hd3 := below_then hd2 hd2.size hb2
    refine hK.out _ _ ⟨⟨(blk_cell (blk_below B7 hd3) 0).trans rfl, (blk_cell (blk_below B7 hd3) 1).trans rfl⟩, ⟨(blk_cell (blk_below B5a hd3) 0).trans rfl, (blk_cell (blk_below B5a hd3) 1).trans rfl⟩⟩ (fun hHeld => ?_)
    clear hK K
    refine nA_ (some 23) ?_
    refine pA_ 6 (some 24) 7 127 ?_
    refine dA_ ?_
    have B5b := blk_below B5a hd3
    have B4b := blk_below B4a hd3
    have e0 : W3.cell? ⟨g7, 0, none⟩ = some (.int .i64 y.f0) := (blk_cell (blk_below B7 hd3) 0).trans rfl
    have e1 : W3.cell? ⟨g7, 1, none⟩ = some (.int .i64 y.f1) := (blk_cell (blk_below B7 hd3) 1).trans rfl
    have e2 : W3.cell? ⟨g5, 0, none⟩ = some (.int .i64 b.f0) := (blk_cell B5b 0).trans rfl
    have e3 : W3.cell? ⟨g5, 1, none⟩ = some (.int .i64 b.f1) := (blk_cell B5b 1).trans rfl
    have e4 := blk_frozen B5b 0
    have e5 := blk_frozen B5b 1
    have HB9 := Lib.hid (below_then HB8.out HB8.out.size hd3)
    have HX4 := Lib.hid B4b
    have HX5 := Lib.hid B5b
    clear hHeld HT_ HW_ hd hd2 hd3 hb hb2 B7 B5a B4a B5b B4b ed B5 B4
    cases q with
    | false =>
      have hlt3 : ¬ y.f1 < b.f1 := of_decide_eq_false hq
      have HM2 := Lib.hid (show b = (l2.take (i + 1)).foldl minP x by rw [HS.out, ← HM.out, minP, if_neg hlt3])
      clear hlt3 hq
      go_wp2
      go_roundg k1
      case rel => exact ⟨i + 1, b, rfl, ⟨b21_⟩, ⟨HM2.out⟩, ⟨HX5.out⟩, ⟨HX4.out⟩, ⟨HB9.out⟩⟩
      case measure => omega
    | true => ?_
    have hlt3 : y.f1 < b.f1 := of_decide_eq_true hq
    have HM2 := Lib.hid (show y = (l2.take (i + 1)).foldl minP x by rw [HS.out, ← HM.out, minP, if_pos hlt3])
    clear hlt3 hq
    go_wp2
    go_roundg k1
    case rel => exact ⟨i + 1, y, rfl, ⟨b21_⟩, ⟨HM2.out⟩, ⟨blk_put (cs := #[.int .i64 y.f0, .int .i64 b.f1]) (blk_put (cs := #[.int .i64 b.f0, .int .i64 b.f1]) HX5.out 0 _ rfl) 1 _ rfl⟩, ⟨blk_far (p := ⟨g5, 1, none⟩) (blk_far (p := ⟨g5, 0, none⟩) HX4.out b35_ _) b35_ _⟩, ⟨below_set (below_set HB9.out (by have := HG.out; omega)) (by have := HG.out; omega)⟩⟩
    case measure => omega
  go_wp2
  clear e1 e2 hcl1
  go_loopg [7, 14] l2.length (fun kq v7 v14 w' => ∃ (i : Nat) (b : S54), v14 = .int .i64 i ∧ Aside0 (i + kq = l2.length) ∧ Aside0 (b = (l2.take i).foldl minP x) ∧ Aside0 (w'.heap[g5]? = some (.cells #[.int .i64 b.f0, .int .i64 b.f1] 54 (0, 0))) ∧ Aside0 (w'.heap[g4]? = some (.cells #[.int .i64 0, .int .i64 0] 54 (0, 0))) ∧ Aside0 (Below w.heap.size w w'))
  case atStart => exact ⟨0, x, rfl, ⟨(by omega)⟩, ⟨rfl⟩, ⟨B5.out⟩, ⟨B4.out⟩, ⟨HW.out⟩⟩
  clear B4 B5 HW
  obtain ⟨i, b, rfl, HI, HM, B5, B4, HB⟩ := hrel
  cases gk with
  | zero =>
    have hi : i = l2.length := by have := HI.out; omega
    have hlt : decide (i < l2.length) = false := by rw [hi]; simp
    have hlt2 : decide ((i : Int) < (l2.length : Int)) = false := decide_eq_false (by omega)
    have hM : b = leastP (x :: l2) := by rw [HM.out, List.take_of_length_le (by omega)]; rfl
    have e0 : wr.cell? ⟨g5, 0, none⟩ = some (.int .i64 b.f0) := (blk_cell B5.out 0).trans rfl
    have e1 : wr.cell? ⟨g5, 1, none⟩ = some (.int .i64 b.f1) := (blk_cell B5.out 1).trans rfl
    have e2 : wr.cell? ⟨g4, 0, none⟩ = some (.int .i64 0) := (blk_cell B4.out 0).trans rfl
    have e3 : wr.cell? ⟨g4, 1, none⟩ = some (.int .i64 0) := (blk_cell B4.out 1).trans rfl
    have e4 := blk_frozen B4.out 0
    have e5 := blk_frozen B4.out 1
    have HM2 := Lib.hid hM
    clear hi hM
    go_wp2
    have B4' := blk_put (cs' := #[.int .i64 b.f0, .int .i64 b.f1]) (blk_put (cs' := #[.int .i64 b.f0, .int .i64 0]) B4.out 0 (.int .i64 b.f0) rfl) 1 (.int .i64 b.f1) rfl
    have r0 := (blk_cell B4' 0).trans (show (#[Value.int .i64 b.f0, Value.int .i64 b.f1] : Array Value)[0]? = some (.int .i64 b.f0) from rfl)
    have r1 := (blk_cell B4' 1).trans (show (#[Value.int .i64 b.f0, Value.int .i64 b.f1] : Array Value)[1]? = some (.int .i64 b.f1) from rfl)
    exact bodyPost_ret (v := enc54 b) (by simp [results, Try.results80, go_sem, enc54, r0, r1]) rfl ⟨(by rw [HM2.out]), by
      have h0 := HG.out.1
      rw [← h0]
      exact below_set (below_set HB.out (Nat.le_refl _)) (Nat.le_refl _)⟩
  | succ k1 => ?_
  have hi : i < l2.length := by have := HI.out; omega
  have hlt : decide (i < l2.length) = true := by simp [hi]
  have hlt2 : decide ((i : Int) < (l2.length : Int)) = true := decide_eq_true (by omega)
  have hC := Kd.C_below HC2.out HB.out
  obtain ⟨ad3, e0, hc0, hc1⟩ := at_T54 hC (i : Int) (by omega) (by omega)
  cases e0
  rw [Int.toNat_natCast, rd_T54_nat l2 i hi] at hc0 hc1
  have hblk := World.block_lt_of_cell? wr _ hc0
  have hblk2 : (ad2.add (i * 2)).block < wr.heap.size := hblk
  have hblk3 : ¬ (ad2.add (i * 2)).block = wr.heap.size := by omega
  have HS := Lib.hid (foldl_step minP x l2 i hi)
  clear hC
  generalize l2[i] = y at *
  go_upto_region 5 with (fail)
  have B7 := blk_new wr (.cells #[.int .i64 y.f0, .int .i64 y.f1] 54)
  have HB7 := below_alloc (Below.refl wr.heap.size wr) (.cells #[.int .i64 y.f0, .int .i64 y.f1] 54)
  have B5a := blk_below B5.out HB7
  have B4a := blk_below B4.out HB7
  have HB8 := Lib.hid (below_then HB.out HB.out.size HB7)
  clear hc0 hc1 hblk hblk2 hblk3 HB7
  generalize wr.alloc (.cells #[.int .i64 y.f0, .int .i64 y.f1] 54) = W1 at *
  generalize wr.heap.size = g7 at *
  obtain ⟨q, hq⟩ : ∃ q, decide (y.f1 < b.f1) = q := ⟨_, rfl⟩
  obtain ⟨Wd, ed⟩ : ∃ Wd, W1.drew = Wd := ⟨_, rfl⟩
  have hd : Below W1.heap.size W1 Wd := by rw [← ed]; exact below_drew (Below.refl _ _)
  refine sA_ 7 (fun w' => (w'.cell? ⟨g7, 0, none⟩ = some (.int .i64 y.f0) ∧ w'.cell? ⟨g7, 1, none⟩ = some (.int .i64 y.f1)) ∧ (w'.cell? ⟨g5, 0, none⟩ = some (.int .i64 b.f0) ∧ w'.cell? ⟨g5, 1, none⟩ = some (.int .i64 b.f1))) [] leastP80.tab5 leastP80.bits5 (by rw [ed]; exact ⟨⟨(blk_cell (blk_below B7 hd) 0).trans rfl, (blk_cell (blk_below B7 hd) 1).trans rfl⟩, ⟨(blk_cell (blk_below B5a hd) 0).trans rfl, (blk_cell (blk_below B5a hd) 1).trans rfl⟩⟩) (fun hHeld HT_ HW_ => ?_)
  rw [ed] at hHeld ⊢
  refine pA_ 0 (some 18) 7 1 ?_
  refine pA_ 3 (some 21) 7 9 ?_
  refine tH_ 1 (some 19) 7 11 ?_
  refine tH_ 4 (some 22) 7 27 ?_
  refine oA_ 2 (some 20) 7 31 (fun K hK => ?_)
  refine goesV_ EG #[enc54 y] (by rfl) rfl rfl (by rfl) b11_ ?_
  refine (cents_calls y Wd).mono ?_
  rintro e W2 ⟨rfl, hb⟩
  refine ⟨_, rfl, ?_⟩
  have hd2 := below_then hd hd.size hb
  refine hK.out _ _ ⟨⟨(blk_cell (blk_below B7 hd2) 0).trans rfl, (blk_cell (blk_below B7 hd2) 1).trans rfl⟩, ⟨(blk_cell (blk_below B5a hd2) 0).trans rfl, (blk_cell (blk_below B5a hd2) 1).trans rfl⟩⟩ (fun hHeld => ?_)
  clear hK K
  refine nA_ (some 20) ?_
  refine oA_ 5 (some 23) 7 63 (fun K hK => ?_)
  refine goesV_ EG #[enc54 b] (by rfl) rfl rfl (by rfl) b11_ ?_
  refine (cents_calls b W2).mono ?_
  rintro e W3 ⟨rfl, hb2⟩
  refine ⟨_, rfl, ?_⟩
  have hd3 := below_then hd2 hd2.size hb2
  refine hK.out _ _ ⟨⟨(blk_cell (blk_below B7 hd3) 0).trans rfl, (blk_cell (blk_below B7 hd3) 1).trans rfl⟩, ⟨(blk_cell (blk_below B5a hd3) 0).trans rfl, (blk_cell (blk_below B5a hd3) 1).trans rfl⟩⟩ (fun hHeld => ?_)
  clear hK K
  refine nA_ (some 23) ?_
  refine pA_ 6 (some 24) 7 127 ?_
  refine dA_ ?_
  have B5b := blk_below B5a hd3
  have B4b := blk_below B4a hd3
  have e0 : W3.cell? ⟨g7, 0, none⟩ = some (.int .i64 y.f0) := (blk_cell (blk_below B7 hd3) 0).trans rfl
  have e1 : W3.cell? ⟨g7, 1, none⟩ = some (.int .i64 y.f1) := (blk_cell (blk_below B7 hd3) 1).trans rfl
  have e2 : W3.cell? ⟨g5, 0, none⟩ = some (.int .i64 b.f0) := (blk_cell B5b 0).trans rfl
  have e3 : W3.cell? ⟨g5, 1, none⟩ = some (.int .i64 b.f1) := (blk_cell B5b 1).trans rfl
  have e4 := blk_frozen B5b 0
  have e5 := blk_frozen B5b 1
  have HB9 := Lib.hid (below_then HB8.out HB8.out.size hd3)
  have HX4 := Lib.hid B4b
  have HX5 := Lib.hid B5b
  clear hHeld HT_ HW_ hd hd2 hd3 hb hb2 B7 B5a B4a B5b B4b ed B5 B4
  cases q with
  | false =>
    have hlt3 : ¬ y.f1 < b.f1 := of_decide_eq_false hq
    have HM2 := Lib.hid (show b = (l2.take (i + 1)).foldl minP x by rw [HS.out, ← HM.out, minP, if_neg hlt3])
    clear hlt3 hq
    go_wp2
    go_roundg k1
    case rel => exact ⟨i + 1, b, rfl, ⟨b21_⟩, ⟨HM2.out⟩, ⟨HX5.out⟩, ⟨HX4.out⟩, ⟨HB9.out⟩⟩
    case measure => omega
  | true => ?_
  have hlt3 : y.f1 < b.f1 := of_decide_eq_true hq
  have HM2 := Lib.hid (show y = (l2.take (i + 1)).foldl minP x by rw [HS.out, ← HM.out, minP, if_pos hlt3])
  clear hlt3 hq
  go_wp2
  go_roundg k1
  case rel => exact ⟨i + 1, y, rfl, ⟨b21_⟩, ⟨HM2.out⟩, ⟨blk_put (cs := #[.int .i64 y.f0, .int .i64 b.f1]) (blk_put (cs := #[.int .i64 b.f0, .int .i64 b.f1]) HX5.out 0 _ rfl) 1 _ rfl⟩, ⟨blk_far (p := ⟨g5, 1, none⟩) (blk_far (p := ⟨g5, 0, none⟩) HX4.out b35_ _) b35_ _⟩, ⟨below_set (below_set HB9.out (by have := HG.out; omega)) (by have := HG.out; omega)⟩⟩
  case measure => omega
end Go.Proofs.Ytcgdbjojjpoegaa.P

namespace Go.Proofs.Ytcgdbjojjpoegaa.P
open Go.RowKit Go.Proofs.YtcgdbjojjpoegaaW.PrintWords Go.Proofs.YtcgdbjojjpoegaaW.PrintLast Go.Proofs.YtcgdbjojjpoegaaW.PrintMore
set_option linter.unusedVariables false
set_option linter.unusedSimpArgs false

theorem C_take {α : Type} {k : Kd α} {W : World} {A : Option Addr} {l : List α} (h : k.C W A l.length l) (n : Nat) (hn : n ≤ l.length) : k.C W A n (l.take n) := by
  obtain ⟨h1, h2, h3⟩ := h
  refine ⟨(by rw [List.length_take]; omega), (by omega), fun hp => ?_⟩
  obtain ⟨ad, e, hc⟩ := h3 (by omega)
  refine ⟨ad, e, fun j p hj => hc j p ?_⟩
  rw [List.getElem?_take] at hj
  split at hj
  · exact hj
  cases hj
/-- what the program's fair answers -/
def pole_fair.f (l : List S54) (lo hi m : Int) : Option Int :=
  (pole_at.f 100 l (wrap64 (m + lo))).bind fun a => (pole_at.f 100 l (wrap64 (m + hi))).bind fun b =>
    if 0 ≤ a ∧ a ≤ b ∧ b < (l.length : Int) then some (leastP ((l.drop a.toNat).take (b.toNat + 1 - a.toNat))).f1 else none
def fairP54.T1 : Bool × List (List Nat × List Nat) := (true, [([], []), ([], []), ([], []), ([], []), ([3], [3]), ([2, 4], [2, 4]), ([1, 5], [1, 5]), ([], []), ([], []), ([], []), ([9], [9]), ([8, 10], [8, 10]), ([7, 11, 6], [7, 11]), ([12], [12]), ([0, 6, 13], [0, 6, 13]), ([14, 12, 0, 1, 2, 3, 4, 5, 6, 7, 8, 9, 10, 11, 12, 13, 14], [14])])
def fairP54.B1 : List Nat := [0, 0, 0, 0, 8, 28, 62, 0, 0, 0, 512, 1792, 4094, 8190, 16383, 32767]
theorem fairP54.tab1 : rtab .any (opsOf Try.f54 1) = fairP54.T1 := by kernel_rfl
theorem fairP54.bits1 : waitsOk fairP54.T1.2 fairP54.B1 = true := by kernel_rfl
set_option maxHeartbeats 2000000 in
set_option maxRecDepth 100000 in
theorem pole_fair.calls (A0 : Option Addr) (c0 : Nat) (l0 : List S54) (a1_0 a1_1 a2 : Int) (r : Int) (w : World) (hr0 : Kd.C k54 w A0 l0.length l0) (hc0 : l0.length ≤ c0) (h : pole_fair.f l0 a1_0 a1_1 a2 = some r) :
    Calls Try.prog 54 #[.slice A0 l0.length c0, .agg #[.int .i64 a1_0, .int .i64 a1_1], .int .i64 a2] w fun e w' => e = .returned (.int .i64 r) ∧ Below w.heap.size w w' := by
  unfold pole_fair.f at h
  rw [Option.bind_eq_some_iff] at h
  obtain ⟨a, ha, h⟩ := h
  rw [Option.bind_eq_some_iff] at h
  obtain ⟨b, hb, h⟩ := h
  split at h
  · rename_i hab
    obtain ⟨hab0, hab1, hab2⟩ := hab
    obtain ⟨a, rfl⟩ : ∃ n : Nat, a = (n : Int) := ⟨a.toNat, (by omega)⟩
    obtain ⟨b, rfl⟩ : ∃ n : Nat, b = (n : Int) := ⟨b.toNat, (by omega)⟩
    injection h with h
    simp only [Int.toNat_natCast] at h
    have hp : 0 < l0.length := by omega
    obtain ⟨ad, eA, _, _⟩ := at_T54 hr0 0 (by omega) (by omega)
    subst eA
    have HA := Lib.hid ha
    have HBb := Lib.hid hb
    have HR := Lib.hid hr0
    have HC := Lib.hid hc0
    have HL := hr0.2.1
    have HLE := Lib.hid h
    have q0 : 0 ≤ (a : Int) := by omega
    have q1 : (a : Int) ≤ (b : Int) + 1 := by omega
    have q2 : (b : Int) + 1 ≤ (l0.length : Int) := by omega
    have q3 : (b : Int) + 1 ≤ (c0 : Int) := by omega
    have q4 : 0 ≤ (b : Int) + 1 := by omega
    have q5 : wrap64 ((b : Int) + 1) = (b : Int) + 1 := by unfold wrap64; omega
    have q6 : ((b : Int) + 1).toNat = b + 1 := by omega
    have q7 : ¬ c0 = a := by omega
    have q8 : a ≤ b + 1 := by omega
    have QAB := Lib.hid (show a < b + 1 by omega)
    have q9 : b + 1 ≤ l0.length := by omega
    have q10 : b + 1 ≤ c0 := by omega
    clear hr0 ha hb h hab0 hab1 hab2 hp hc0
    have HB0 := Lib.hid (below_alloc (Below.refl w.heap.size w) (.cells #[.int .i64 a1_0, .int .i64 a1_1] 24))
    have BK := Lib.hid (blk_new w (.cells #[.int .i64 a1_0, .int .i64 a1_1] 24))
    have hf54 : ∀ (a b : Int) (W : World), (Instr.field 54 (.agg #[.int .i64 a, .int .i64 b]) 1).run Try.prog W = .ok (.int .i64 b) W := fun _ _ _ => by kernel_rfl
    go_enter Try.func54, Try.ntmps54
    go_upto_region 1 with (fail)
    generalize w.alloc (.cells #[.int .i64 a1_0, .int .i64 a1_1] 24) = W0 at *
    obtain ⟨Wd, ed⟩ : ∃ Wd, W0.drew = Wd := ⟨_, rfl⟩
    have hd : Below W0.heap.size W0 Wd := by rw [← ed]; exact below_drew (Below.refl _ _)
    have hbk := blk_below BK.out hd
    have hB1 := below_then HB0.out HB0.out.size hd
    refine sA_ 16 (fun w' => w'.cell? ⟨w.heap.size, 0, none⟩ = some (.int .i64 a1_0) ∧ w'.cell? ⟨w.heap.size, 1, none⟩ = some (.int .i64 a1_1)) [] fairP54.tab1 fairP54.bits1 (by rw [ed]; exact ⟨(blk_cell hbk 0).trans rfl, (blk_cell hbk 1).trans rfl⟩) (fun hHeld HT_ HW_ => ?_)
    rw [ed] at hHeld ⊢
    refine pA_ 0 (some 8) 16 1 ?_
    refine pA_ 1 (some 9) 16 3 ?_
    refine pA_ 2 (some 10) 16 7 ?_
    refine pA_ 3 (some 11) 16 15 ?_
    refine pA_ 7 (some 15) 16 143 ?_
    refine pA_ 8 (some 16) 16 399 ?_
    refine pA_ 9 (some 17) 16 911 ?_
    refine tB_ 4 (some 12) 16 927 ?_
    refine tB_ 10 (some 18) 16 1951 ?_
    refine pA_ 5 (some 13) 16 1983 ?_
    refine pA_ 11 (some 19) 16 4031 ?_
    refine oA_ 6 (some 14) 16 4095 (fun K hK => ?_)
    refine goes_ Try.func52 (by kernel_rfl) rfl #[.slice (some ad) l0.length c0, .int .i64 (wrap64 (a2 + a1_0))] (by rfl) rfl rfl b11_ ?_
    refine (pole_at.calls 100 (some ad) c0 l0 (wrap64 (a2 + a1_0)) (a : Int) Wd (Kd.C_below HR.out hB1) HC.out HA.out).mono ?_
    rintro e W2 ⟨rfl, hdr⟩
    have hb := drawn_below hdr
    refine ⟨_, rfl, ?_⟩
    have hbk2 := blk_below hbk hb
    have hB2 := below_then hB1 hB1.size hb
    refine hK.out _ _ ⟨(blk_cell hbk2 0).trans rfl, (blk_cell hbk2 1).trans rfl⟩ (fun hHeld => ?_)
    clear hK K
    refine nA_ (some 14) ?_
    refine oA_ 12 (some 20) 16 8191 (fun K hK => ?_)
    refine goes_ Try.func52 (by kernel_rfl) rfl #[.slice (some ad) l0.length c0, .int .i64 (wrap64 (a2 + a1_1))] (by rfl) rfl rfl b11_ ?_
    refine (pole_at.calls 100 (some ad) c0 l0 (wrap64 (a2 + a1_1)) (b : Int) W2 (Kd.C_below HR.out hB2) HC.out HBb.out).mono ?_
    rintro e W3 ⟨rfl, hdr2⟩
    have hb2 := drawn_below hdr2
    refine ⟨_, rfl, ?_⟩
    have hbk3 := blk_below hbk2 hb2
    have hB3 := below_then hB2 hB2.size hb2
    refine hK.out _ _ ⟨(blk_cell hbk3 0).trans rfl, (blk_cell hbk3 1).trans rfl⟩ (fun hHeld => ?_)
    clear hK K
    refine nA_ (some 20) ?_
    refine pA_ 13 (some 21) 16 16383 ?_
    refine pA_ 14 (some 22) 16 32767 ?_
    refine pA_ 15 (some 7) 16 65535 ?_
    refine dA_ ?_
    have hC := C_take (Kd.C_drop (m := a) (Kd.C_below HR.out hB3) (by omega) HC.out) (b + 1 - a) (by rw [List.length_drop]; omega)
    rw [if_neg q7] at hC
    have hln : ((l0.drop a).take (b + 1 - a)).length = b + 1 - a := by rw [List.length_take, List.length_drop]; omega
    have H80 := least80_calls (some (ad.add (a * 2))) (c0 - a) ((l0.drop a).take (b + 1 - a)) W3 (by rw [hln]; exact hC) (by rw [hln]; omega) (by rw [hln]; have := QAB.out; clear q0 q1 q2 q3 q4 q5 q6; omega)
    rw [hln] at H80
    replace H80 := Lib.hid H80
    have HB3 := Lib.hid hB3
    clear hC hln hHeld HT_ HW_ hd hbk hB1 hbk2 hB2 hbk3 hB3 hb hb2 hdr hdr2 q0 q1 q2 q3 q4 q5 q6 q7 q8 q9 q10 ed
    generalize leastP ((l0.drop a).take (b + 1 - a)) = x at *
    go_wp2_with fail
    refine (H80.out).mono ?_
    rintro e W4 ⟨rfl, hb⟩
    have HB4 := Lib.hid hb
    clear hb
    unfold enc54
    go_wp2
    go_ret
    exact ⟨(by rw [← HLE.out]; rfl), below_then HB3.out HB3.out.size HB4.out⟩
  cases h
end Go.Proofs.Ytcgdbjojjpoegaa.P

namespace Go.Proofs.Ytcgdbjojjpoegaa.P
open Go.RowKit Go.Proofs.YtcgdbjojjpoegaaW.PrintWords Go.Proofs.YtcgdbjojjpoegaaW.PrintLast Go.Proofs.YtcgdbjojjpoegaaW.PrintMore
set_option linter.unusedVariables false
set_option linter.unusedSimpArgs false

/-- lines that are not as long as the first one -/
def oddLine (n : Nat) (l : List Int) : Bool := (l.length : Int) != (n : Int)
def badLine (l : List Int) : Bool := !withinB 0 1000000 l
/-- the first row of rows that came in -/
theorem row0 {w : World} {A : Option Addr} {l : List (List Int)} (hr : Kd.C (Kd.slice 2 (Kd.int .i64)) w A l.length l) (hp : 0 < l.length) :
    ∃ ad A0 c0, A = some ad ∧ w.cell? ad = some (.slice A0 (rd_L2 l 0).length c0) ∧ ad.block < w.heap.size := by
  obtain ⟨ad, A0, c0, e, hc, _, _⟩ := at_L2 hr 0 (by omega) (by omega)
  have hc' : w.cell? (ad.add 0) = some (.slice A0 (rd_L2 l 0).length c0) := hc
  rw [Addr.add_zero'] at hc'
  exact ⟨ad, A0, c0, e, hc', World.block_lt_of_cell? w _ hc'⟩
set_option maxHeartbeats 400000 in
set_option maxRecDepth 100000 in
theorem oddLine_lit (w : World) (g : Nat) (ad : Addr) (n c : Nat) (A0 : Option Addr) (n0 c0 : Nat) (hn : 0 < n) (h1 : w.cell? ⟨g, 1, none⟩ = some (.slice (some ad) n c)) (h2 : w.cell? ad = some (.slice A0 n0 c0)) :
    PredS 63 #[.pointer (some ⟨g, 0, none⟩)] (oddLine n0) w := by
  intro W A c' x hb hle hC
  have d1 := cell_in hb h1
  have d2 := cell_in hb h2
  have HL := Lib.hid hC.2.1
  clear h1 h2 hb hC hle
  show Calls Try.prog 63 #[.slice A x.length c', .pointer (some ⟨g, 0, none⟩)] W _
  have hn2 : 0 < (n : Int) := by omega
  go_enter Try.func63, Try.ntmps63
  go_wp2
  go_ret
  exact ⟨(by first | rfl | simp [oddLine]), Below.refl _ _⟩
set_option maxHeartbeats 400000 in
set_option maxRecDepth 100000 in
theorem badLine_lit (w : World) : PredS 64 #[] badLine w := by
  intro W A c' x hb hle hC
  clear hb
  have H := Lib.hid (within_calls 0 1000000 A c' x W hC)
  clear hC
  show Calls Try.prog 64 #[.slice A x.length c'] W _
  go_enter Try.func64, Try.ntmps64
  go_wp2_with (go_at_call 51; refine (H.out).mono ?_; rintro e w1 ⟨rfl, hb1⟩)
  go_ret
  exact ⟨rfl, hb1⟩
/-- what CheckTable answers -/
def tableE (den : Int) (l : List (List Int)) : Int :=
  if l.length = 0 ∨ 6 < l.length ∨ (rd_L2 l 0).length = 0 ∨ 6 < (rd_L2 l 0).length then 6
  else if l.any (oddLine (rd_L2 l 0).length) then 15 else if !withinB 1 1000 [den] then 2 else if l.any badLine then 3 else 0
theorem tableE_many {den : Int} {l : List (List Int)} (h : l.length = 0 ∨ 6 < l.length ∨ (rd_L2 l 0).length = 0 ∨ 6 < (rd_L2 l 0).length) : tableE den l = 6 := by rw [tableE, if_pos h]
set_option maxHeartbeats 1000000 in
set_option maxRecDepth 100000 in
theorem checkTable_calls (den : Int) (A : Option Addr) (c : Nat) (l : List (List Int)) (w : World) (hr : Kd.C (Kd.slice 2 (Kd.int .i64)) w A l.length l) (hcl : l.length ≤ c) :
    Calls Try.prog 28 #[.agg #[.int .i64 den, .slice A l.length c]] w fun e w' => e = .returned (.int .i64 (tableE den l)) ∧ Below w.heap.size w w' := by
  have HL := Lib.hid hr.2.1
  have hB := below_alloc (Below.refl w.heap.size w) (.cells #[.int .i64 den, .slice A l.length c] 39)
  by_cases h0 : l.length = 0
  · have F := Lib.hid (tableE_many (den := den) (l := l) (.inl h0))
    have t1 : (l.length == 0) = true := by simp [h0]
    have t2 : ((l.length : Int) == 0) = true := by simp [h0]
    have HB := Lib.hid hB
    clear h0 hr hB hcl
    go_enter Try.func28, Try.ntmps28
    go_wp2
    go_ret
    exact ⟨(by rw [F.out]; rfl), HB.out⟩
  have t1 : (l.length == 0) = false := by simp [h0]
  have t2 : ((l.length : Int) == 0) = false := beq_eq_false_iff_ne.mpr (by omega)
  by_cases h6 : 6 < l.length
  · have F := Lib.hid (tableE_many (den := den) (l := l) (.inr (.inl h6)))
    have t3 : decide (6 < l.length) = true := decide_eq_true h6
    have t4 : decide (6 < (l.length : Int)) = true := decide_eq_true (by omega)
    have HB := Lib.hid hB
    clear h0 hr hB h6 hcl
    go_enter Try.func28, Try.ntmps28
    go_wp2
    go_ret
    exact ⟨(by rw [F.out]; rfl), HB.out⟩
  have t3 : decide (6 < l.length) = false := decide_eq_false h6
  have t4 : decide (6 < (l.length : Int)) = false := decide_eq_false (by omega)
  have hp : 0 < l.length := by omega
  have hp2 : 0 < (l.length : Int) := by omega
  obtain ⟨ad, A0, c0, eA, hc0, hb0⟩ := row0 hr hp
  subst eA
  have hb1 : ¬ ad.block = w.heap.size := by omega
  have HRL := Lib.hid (show (rd_L2 l 0).length ≤ 9223372036854775807 by
    obtain ⟨_, _, _, _, _, _, h⟩ := at_L2 hr 0 (by omega) (by omega)
    exact h.2.1)
  by_cases h3 : (rd_L2 l 0).length = 0
  · have F := Lib.hid (tableE_many (den := den) (l := l) (.inr (.inr (.inl h3))))
    have t5 : ((rd_L2 l 0).length == 0) = true := by simp [h3]
    have t6 : (((rd_L2 l 0).length : Int) == 0) = true := by simp [h3]
    have HB := Lib.hid hB
    clear h0 hr hB h6 h3 hcl
    generalize (rd_L2 l 0).length = n0 at *
    go_enter Try.func28, Try.ntmps28
    go_wp2
    go_ret
    exact ⟨(by rw [F.out]; rfl), HB.out⟩
  have t5 : ((rd_L2 l 0).length == 0) = false := by simp [h3]
  have t6 : (((rd_L2 l 0).length : Int) == 0) = false := beq_eq_false_iff_ne.mpr (by omega)
  by_cases h4 : 6 < (rd_L2 l 0).length
  · have F := Lib.hid (tableE_many (den := den) (l := l) (.inr (.inr (.inr h4))))
    have t7 : decide (6 < (rd_L2 l 0).length) = true := decide_eq_true h4
    have t8 : decide (6 < ((rd_L2 l 0).length : Int)) = true := decide_eq_true (by omega)
    have HB := Lib.hid hB
    clear h0 hr hB h6 h3 h4 hcl
    generalize (rd_L2 l 0).length = n0 at *
    go_enter Try.func28, Try.ntmps28
    go_wp2
    go_ret
    exact ⟨(by rw [F.out]; rfl), HB.out⟩
  have t7 : decide (6 < (rd_L2 l 0).length) = false := decide_eq_false h4
  have t8 : decide (6 < ((rd_L2 l 0).length : Int)) = false := decide_eq_false (by omega)
  have F := Lib.hid (show tableE den l = if l.any (oddLine (rd_L2 l 0).length) then 15 else if !withinB 1 1000 [den] then 2 else if l.any badLine then 3 else 0 by rw [tableE, if_neg (by omega)])
  have BK := blk_new w (.cells #[.int .i64 den, .slice (some ad) l.length c] 39)
  have H1 := Lib.hid (ContainsFunc62 63 _ _ (some ad) c l _ (enters_of Try.func63 (by kernel_rfl) rfl) (Kd.C_below hr hB) (oddLine_lit _ w.heap.size ad l.length c A0 (rd_L2 l 0).length c0 hp ((blk_cell BK 1).trans rfl) (cell_in hB hc0)))
  have HR := Lib.hid hr
  have HB := Lib.hid hB
  have HK := Lib.hid BK
  have HC0 := Lib.hid hc0
  clear h0 hr hB h6 h3 h4 hcl BK
  generalize (rd_L2 l 0).length = n0 at *
  go_enter Try.func28, Try.ntmps28
  go_upto_region 4 with (fail)
  clear hc0 hb0 hb1
  generalize w.alloc (.cells #[.int .i64 den, .slice (some ad) l.length c] 39) = W0 at *
  have y1 : W0.cell? ⟨w.heap.size, 1, none⟩ = some (.slice (some ad) l.length c) := (blk_cell HK.out 1).trans rfl
  have y0 : W0.cell? ⟨w.heap.size, 0, none⟩ = some (.int .i64 den) := (blk_cell HK.out 0).trans rfl
  cases hq : l.any (oddLine n0)
  rotate_left
  · rw [hq] at H1
    have F1 := Lib.hid (show tableE den l = 15 by rw [F.out, hq]; rfl)
    clear hq
    go_wp2_with fail
    refine (H1.out).mono ?_
    rintro e W1 ⟨rfl, hb1⟩
    have HB1 := Lib.hid hb1
    clear hb1
    go_wp2
    go_ret
    exact ⟨(by rw [F1.out]; rfl), below_then HB.out HB.out.size HB1.out⟩
  rw [hq] at H1
  have F1 := Lib.hid (show tableE den l = if !withinB 1 1000 [den] then 2 else if l.any badLine then 3 else 0 by rw [F.out, hq]; rfl)
  clear hq
  go_wp2_with fail
  refine (H1.out).mono ?_
  rintro e W1 ⟨rfl, hb1⟩
  have HB1 := Lib.hid (below_then HB.out HB.out.size hb1)
  have HK1 := Lib.hid (blk_below HK.out hb1)
  have z1 : W1.cell? ⟨w.heap.size, 1, none⟩ = some (.slice (some ad) l.length c) := (blk_cell HK1.out 1).trans rfl
  have z0 : W1.cell? ⟨w.heap.size, 0, none⟩ = some (.int .i64 den) := (blk_cell HK1.out 0).trans rfl
  clear hb1 y0 y1
  cases hq : withinB 1 1000 [den]
  · have F2 := Lib.hid (show tableE den l = 2 by rw [F1.out, hq]; rfl)
    go_wp2_with fail
    refine (within_one _ _ den _ _ _ ?_).mono ?_
    focus (go_simp; done)
    rintro e W2 ⟨rfl, hb2⟩
    rw [hq]
    have HB2 := Lib.hid (alloc_step hb2)
    clear hq hb2
    go_wp2
    go_ret
    exact ⟨(by rw [F2.out]; rfl), below_then HB1.out HB1.out.size HB2.out⟩
  go_wp2_with fail
  refine (within_one _ _ den _ _ _ ?_).mono ?_
  focus (go_simp; done)
  rintro e W2 ⟨rfl, hb2⟩
  rw [hq]
  have F2 := Lib.hid (show tableE den l = if l.any badLine then 3 else 0 by rw [F1.out, hq]; rfl)
  have hb3 := alloc_step hb2
  have HB2 := Lib.hid (below_then HB1.out HB1.out.size hb3)
  have u1 : W2.cell? ⟨w.heap.size, 1, none⟩ = some (.slice (some ad) l.length c) := (blk_cell (blk_below HK1.out hb3) 1).trans rfl
  have H2 := Lib.hid (ContainsFunc62 64 #[] badLine (some ad) c l W2 (enters_of Try.func64 (by kernel_rfl) rfl) (Kd.C_below HR.out HB2.out) (badLine_lit W2))
  clear hq hb2 hb3 z0 z1
  cases hq : l.any badLine
  · rw [hq] at H2
    have F3 := Lib.hid (show tableE den l = 0 by rw [F2.out, hq]; rfl)
    clear hq
    go_wp2_with fail
    refine (H2.out).mono ?_
    rintro e W3 ⟨rfl, hb3⟩
    have HB3 := Lib.hid hb3
    clear hb3
    go_wp2
    go_ret
    exact ⟨(by rw [F3.out]; rfl), below_then HB2.out HB2.out.size HB3.out⟩
  rw [hq] at H2
  have F3 := Lib.hid (show tableE den l = 3 by rw [F2.out, hq]; rfl)
  clear hq
  go_wp2_with fail
  refine (H2.out).mono ?_
  rintro e W3 ⟨rfl, hb3⟩
  have HB3 := Lib.hid hb3
  clear hb3
  go_wp2
  go_ret
  exact ⟨(by rw [F3.out]; rfl), below_then HB2.out HB2.out.size HB3.out⟩
def pole_CheckTable.f (a0_0 : Int) (l0_1 : List (List Int)) : Option Int := some (tableE a0_0 l0_1)
theorem pole_CheckTable.calls (a0_0 : Int) (A0_1 : Option Addr) (c0_1 : Nat) (l0_1 : List (List Int)) (r : Int) (w : World) (hr0_1 : Kd.C (Kd.slice 2 (Kd.int .i64)) w A0_1 l0_1.length l0_1) (hc0_1 : l0_1.length ≤ c0_1) (h : pole_CheckTable.f a0_0 l0_1 = some r) :
    Calls Try.prog 28 #[.agg #[.int .i64 a0_0, .slice A0_1 l0_1.length c0_1]] w fun e w' => e = .returned (.int .i64 r) ∧ Below w.heap.size w w' := by
  injection h with h; subst h
  exact checkTable_calls a0_0 A0_1 c0_1 l0_1 w hr0_1 hc0_1
end Go.Proofs.Ytcgdbjojjpoegaa.P

namespace Go.Proofs.Ytcgdbjojjpoegaa.P
open Go.RowKit Go.Proofs.YtcgdbjojjpoegaaW.PrintWords Go.Proofs.YtcgdbjojjpoegaaW.PrintLast Go.Proofs.YtcgdbjojjpoegaaW.PrintMore
set_option linter.unusedVariables false
set_option linter.unusedSimpArgs false

/-! The book: amounts in a row of the call's own, cell by cell. -/
structure Am where
  fr : Int
  tt : Int
  pa : Int
def cellsA1 (m : Am) : List Value := [.int .i64 m.fr, .int .i64 m.tt, .int .i64 m.pa]
def cellsA : List Am → List Value
  | [] => []
  | m :: l => cellsA1 m ++ cellsA l
theorem cellsA_append : ∀ (a b : List Am), cellsA (a ++ b) = cellsA a ++ cellsA b
  | [], b => rfl
  | m :: a, b => by rw [List.cons_append, cellsA, cellsA, cellsA_append a b, List.append_assoc]
theorem cellsA_len : ∀ (l : List Am), (cellsA l).length = l.length * 3
  | [] => rfl
  | m :: l => by
    rw [cellsA, List.length_append, cellsA_len l, List.length_cons]
    show 3 + _ = _
    omega
theorem cellsA_at : ∀ (l : List Am) (j i : Nat) (hj : j < l.length) (hi : i < 3), (cellsA l)[j * 3 + i]? = (cellsA1 l[j])[i]?
  | [], j, i, hj, hi => absurd hj (Nat.not_lt_zero _)
  | m :: l, 0, i, hj, hi => by
    rw [cellsA, List.getElem?_append_left (by show 0 * 3 + i < 3; omega), Nat.zero_mul, Nat.zero_add]
    rfl
  | m :: l, j + 1, i, hj, hi => by
    rw [cellsA, List.getElem?_append_right (by show 3 ≤ _; omega)]
    have e : (j + 1) * 3 + i - (cellsA1 m).length = j * 3 + i := by
      show (j + 1) * 3 + i - 3 = _
      omega
    rw [e, cellsA_at l j i (by simpa using hj) hi]
    rfl
theorem cellsA_one (l : List Am) : ∀ u ∈ cellsA l, u.oneCell' = true := by
  induction l with
  | nil => intro u hu; cases hu
  | cons m l ih =>
    intro u hu
    rw [cellsA, List.mem_append] at hu
    rcases hu with hu | hu
    · simp only [cellsA1, List.mem_cons, List.not_mem_nil, or_false] at hu
      rcases hu with rfl | rfl | rfl <;> rfl
    exact ih u hu
theorem cellsA_set : ∀ (l : List Am) (k i : Nat) (hk : k < l.length) (hi : i < 3) (u : Value) (m' : Am), cellsA1 m' = (cellsA1 l[k]).set i u → cellsA (l.set k m') = (cellsA l).set (k * 3 + i) u
  | [], k, i, hk, hi, u, m', h => absurd hk (Nat.not_lt_zero _)
  | m :: l, 0, i, hk, hi, u, m', h => by
    rw [List.set_cons_zero, cellsA, cellsA, Nat.zero_mul, Nat.zero_add, List.set_append_left _ _ (by show i < 3; omega), h]
    rfl
  | m :: l, k + 1, i, hk, hi, u, m', h => by
    rw [List.set_cons_succ, cellsA, cellsA, List.set_append_right _ _ (by show 3 ≤ _; omega), cellsA_set l k i (by simpa using hk) hi u m' h]
    have e : (k + 1) * 3 + i - (cellsA1 m).length = k * 3 + i := by
      show (k + 1) * 3 + i - 3 = _
      omega
    rw [e]
theorem ownA_set {W : World} {base g n c : Nat} {l : List Am} (h : W.ownsRow base 98 3 (.slice (some ⟨g, 0, none⟩) n c) l.length (cellsA l)) (k i : Nat) (hk : k < l.length) (hi : i < 3) (u : Value) (m' : Am) (hm : cellsA1 m' = (cellsA1 l[k]).set i u) :
    (W.setCell ⟨g, k * 3 + i, none⟩ u).ownsRow base 98 3 (.slice (some ⟨g, 0, none⟩) n c) (l.set k m').length (cellsA (l.set k m')) := by
  obtain ⟨h1, ⟨h0, _⟩ | ⟨g', cap, cur, h0, hg, hh, hle, hcm, hs, ht⟩⟩ := h
  · cases h0
  injection h0 with e1 e2 e3
  injection e1 with e1
  injection e1 with e1 _ _
  subst e1 e2 e3
  refine ⟨(by rw [cellsA_len]), .inr ⟨g, c, cur.setIfInBounds (k * 3 + i) u, (by rw [List.length_set]), hg, blk_set hh _ _, (by rw [List.length_set]; exact hle), hcm, (by rw [Array.size_setIfInBounds]; exact hs), ?_⟩⟩
  rw [List.length_set, Array.toList_setIfInBounds, List.take_set, ht]
  exact (cellsA_set l k i hk hi u m' hm).symm
theorem ownA_cell {W : World} {base g n c : Nat} {l : List Am} (h : W.ownsRow base 98 3 (.slice (some ⟨g, 0, none⟩) n c) l.length (cellsA l)) (k i : Nat) (hk : k < l.length) (hi : i < 3) : W.cell? ⟨g, k * 3 + i, none⟩ = (cellsA1 l[k])[i]? ∧ W.frozen? ⟨g, k * 3 + i, none⟩ = false := by
  obtain ⟨h1, ⟨h0, _⟩ | ⟨g', cap, cur, h0, hg, hh, hle, hcm, hs, ht⟩⟩ := h
  · cases h0
  injection h0 with e1 e2 e3
  injection e1 with e1
  injection e1 with e1 _ _
  subst e1 e2 e3
  have e := cellsA_at l k i hk hi
  rw [← ht, List.getElem?_take_of_lt (by omega)] at e
  refine ⟨?_, blk_frozen hh _⟩
  rw [blk_cell hh, ← Array.getElem?_toList]
  exact e
/-- append of one amount (in a block of its own) to a row of amounts of the call's own. -/
theorem app98 {W : World} {base : Nat} {v : Value} {xs : List Am} (hown : W.ownsRow base 98 3 v xs.length (cellsA xs)) (x : Am) (g : Nat) (hg : W.heap[g]? = some (.cells #[.int .i64 x.fr, .int .i64 x.tt, .int .i64 x.pa] 98 (0, 0))) (hl : xs.length ≤ 1000) (hbase : base ≤ W.heap.size) :
    ∃ g' c' w', (∀ ty, (Builtin.append_ #[92, 92] ty #[v, .slice (some ⟨g, 0, none⟩) 1 1]).run Try.prog W = .ok (.slice (some ⟨g', 0, none⟩) (xs.length + 1) c') w') ∧ w'.ownsRow base 98 3 (.slice (some ⟨g', 0, none⟩) (xs.length + 1) c') (xs ++ [x]).length (cellsA (xs ++ [x])) ∧ W.grownBy w' v.ownBlock ∧ base ≤ g' := by
  have hu : Try.prog.underlying 92 = some (.slice 98) := by kernel_rfl
  have hinfo : (Try.prog.info? 98).map (fun i => (i.zero, i.size, i.bytes)) = some (some (.agg #[(.int .i64 0), (.int .i64 0), (.int .i64 0)]), 3, 24) := by kernel_rfl
  obtain ⟨ti, hi, hz, hs, hby⟩ := info_parts hinfo
  have hmx : maxLen = 9223372036854775807 := rfl
  obtain ⟨v', w', h1, h2, h3, h4⟩ := run_append_own (P := Try.prog) (w := W) base 92 92 98 ti _ 3 24 hu hi hz hs hby rfl (by decide) v xs.length (cellsA xs) hown ⟨g, 0, none⟩ 1 1 (cellsA [x]) (cellsA_len [x]) (fun j u hu => by
    rw [Addr.add_lit, Nat.zero_add, blk_cell hg]
    rw [← Array.getElem?_toList]
    exact hu) (cellsA_one [x]) (by omega) (by omega) hbase
  rw [← cellsA_append] at h2
  obtain ⟨g', c', rfl, hge, _⟩ := own_form h2 (fun e => by have := (h4.1 e).2; omega)
  exact ⟨g', c', w', fun ty => h1, (by rw [List.length_append]; exact h2), h3, hge⟩
/-- The cells of a book. -/
def bookCells (den : Int) (vc vA : Value) (seen : List Int) : Array Value := ([.int .i64 den, vc, vA] ++ seen.map (Value.int .i64)).toArray
structure BookAt (W : World) (B base : Nat) (den : Int) (vc vA : Value) (am : List Am) (seen : List Int) : Prop where
  blk : W.heap[B]? = some (.cells (bookCells den vc vA seen) 96 (0, 0))
  own : W.ownsRow base 98 3 vA am.length (cellsA am)
  len : seen.length = 14
section
variable {W W' : World} {B base : Nat} {den : Int} {vc vA : Value} {am : List Am} {seen : List Int}
theorem BookAt.c0 (h : BookAt W B base den vc vA am seen) : W.cell? ⟨B, 0, none⟩ = some (.int .i64 den) := (blk_cell h.blk 0).trans rfl
theorem BookAt.c1 (h : BookAt W B base den vc vA am seen) : W.cell? ⟨B, 1, none⟩ = some vc := (blk_cell h.blk 1).trans rfl
theorem BookAt.c2 (h : BookAt W B base den vc vA am seen) : W.cell? ⟨B, 2, none⟩ = some vA := (blk_cell h.blk 2).trans rfl
theorem BookAt.fz (h : BookAt W B base den vc vA am seen) (j : Nat) : W.frozen? ⟨B, j, none⟩ = false := blk_frozen h.blk j
theorem BookAt.lt (h : BookAt W B base den vc vA am seen) : B < W.heap.size := blk_lt h.blk
theorem BookAt.below (h : BookAt W B base den vc vA am seen) (hb : Below W.heap.size W W') : BookAt W' B base den vc vA am seen := ⟨blk_below h.blk hb, own_below h.own hb, h.len⟩
theorem bookCells_set2 (v : Value) : (bookCells den vc vA seen).setIfInBounds 2 v = bookCells den vc v seen := by
  unfold bookCells
  rw [List.setIfInBounds_toArray]
  rfl
/-- The slice of amounts stored anew. -/
theorem BookAt.setA (h : BookAt W B base den vc vA am seen) {v : Value} {am' : List Am} (ho : W.ownsRow base 98 3 v am'.length (cellsA am')) (hne : v.ownBlock ≠ some B) : BookAt (W.setCell ⟨B, 2, none⟩ v) B base den vc v am' seen :=
  ⟨(by have := blk_set h.blk 2 v; rw [bookCells_set2] at this; exact this), ownsRow_setCell_other ho hne v, h.len⟩
end
/-- The book as it is being made, with the sums. -/
structure NBk (w W : World) (B bO : Nat) (den : Int) (vc vA : Value) (am : List Am) (of : List Int) : Prop where
  bk : BookAt W B (bO + 1) den vc vA am [0, 0, 0, 0, 0, 0, 0, 0, 0, 0, 0, 0, 0, 0]
  row : RowC W bO 2 of.length of
  lt : B < bO
  le : w.heap.size ≤ B
  g : Below w.heap.size w W
section
variable {w W W' : World} {B bO : Nat} {den : Int} {vc vA : Value} {am : List Am} {of : List Int}
theorem NBk.below (h : NBk w W B bO den vc vA am of) (hb : Below W.heap.size W W') : NBk w W' B bO den vc vA am of :=
  ⟨h.bk.below hb, h.row.below hb h.row.lt, h.lt, h.le, below_then h.g h.g.size hb⟩
/-- An amount appended: what the append leaves, and the store behind it. -/
theorem NBk.app (h : NBk w W B bO den vc vA am of) (x : Am) (hl : am.length ≤ 1000) :
    ∃ g' c' w', (∀ ty, (Builtin.append_ #[92, 92] ty #[vA, .slice (some ⟨W.heap.size, 0, none⟩) 1 1]).run Try.prog (W.alloc (.cells #[.int .i64 x.fr, .int .i64 x.tt, .int .i64 x.pa] 98)) = .ok (.slice (some ⟨g', 0, none⟩) (am.length + 1) c') w') ∧
      w'.cell? ⟨B, 2, none⟩ = some vA ∧ w'.frozen? ⟨B, 2, none⟩ = false ∧ RowC w' bO 2 of.length of ∧ NBk w (w'.setCell ⟨B, 2, none⟩ (.slice (some ⟨g', 0, none⟩) (am.length + 1) c')) B bO den vc (.slice (some ⟨g', 0, none⟩) (am.length + 1) c') (am ++ [x]) of := by
  have hb := below_alloc (Below.refl W.heap.size W) (.cells #[.int .i64 x.fr, .int .i64 x.tt, .int .i64 x.pa] 98)
  have h1 := h.below hb
  obtain ⟨g', c', w', hap, ho, hg, hge⟩ := app98 h1.bk.own x W.heap.size (blk_new _ _) hl (by have := h1.row.lt; omega)
  have hBne : some B ≠ vA.ownBlock := fun e => by
    have := h1.bk.own.lt B e.symm
    have := h.lt
    omega
  have hOne : some bO ≠ vA.ownBlock := fun e => by
    have := h1.bk.own.lt bO e.symm
    omega
  have hblk := blk_grown h1.bk.blk hg hBne
  have hrow := h1.row.kept hg hOne
  have hgr : Below w.heap.size w w' := below_grown h1.g hg (fun r hr => by
    have := h1.bk.own.lt r hr
    have := h.lt
    have := h.le
    omega)
  have hneB : (Value.slice (some ⟨g', 0, none⟩) (am.length + 1) c').ownBlock ≠ some B := by
    simp only [Value.ownBlock, ne_eq, Option.some.injEq]
    have := h.lt
    omega
  refine ⟨g', c', w', hap, (blk_cell hblk 2).trans rfl, blk_frozen hblk 2, hrow, ?_⟩
  refine ⟨⟨?_, ownsRow_setCell_other ho hneB _, rfl⟩, ?_, h.lt, h.le, below_set hgr h.le⟩
  · have := blk_set hblk 2 (.slice (some ⟨g', 0, none⟩) (am.length + 1) c')
    rw [bookCells_set2] at this
    exact this
  · exact hrow.kept (grown_set w' B 2 _) (by simp; have := h.lt; omega)
theorem NBk.setOf (h : NBk w W B bO den vc vA am of) (j : Nat) (hj : j < of.length) (v : Int) : NBk w (W.setCell ⟨bO, j, none⟩ (.int .i64 v)) B bO den vc vA am (of.set j v) := by
  refine ⟨⟨blk_far h.bk.blk (by have := h.lt; show B ≠ bO; omega) _, ownsRow_setCell_other h.bk.own (fun e => ?_) _, h.bk.len⟩, ?_, h.lt, h.le, below_set h.g (by have := h.lt; have := h.le; omega)⟩
  · have := h.bk.own.lt bO e
    omega
  have := h.row.set j hj v
  rw [List.length_set]
  exact this
end
end Go.Proofs.Ytcgdbjojjpoegaa.P

namespace Go.Proofs.Ytcgdbjojjpoegaa.P
open Go.RowKit Go.Proofs.YtcgdbjojjpoegaaW.PrintWords Go.Proofs.YtcgdbjojjpoegaaW.PrintLast Go.Proofs.YtcgdbjojjpoegaaW.PrintMore
set_option linter.unusedVariables false
set_option linter.unusedSimpArgs false

theorem make48 (n : Nat) (hn : n ≤ 1000) : ∃ cs : Array Value, (∀ W : World, (Instr.makeSlice 48 (.int .i64 (n : Int)) (.int .i64 (n : Int))).run Try.prog W = .ok (.slice (some ⟨W.heap.size, 0, none⟩) n n) (W.alloc (.cells cs 2))) ∧ cs.size = n ∧ ∀ j, j < n → cs[j]? = some (.int .i64 0) := by
  obtain ⟨ti, hi, hz, hs, hby⟩ := info_parts info2
  refine ⟨madeCells (Value.int .i64 0).cells (n * 1), fun W => ?_, ?_, fun j hj => ?_⟩
  · have := run_make (P := Try.prog) W 48 2 ti (.int .i64 0) Try.underlying48 hi hz .i64 .i64 (n : Int) (n : Int) (by omega) (by omega) (by rw [hby]; omega) (by omega)
    rw [hs, Int.toNat_natCast] at this
    exact this
  · simp [madeCells, Value.cells]
  simp [madeCells, Value.cells, hj, Nat.mod_one]
theorem RowC.gcell {W : World} {b : Nat} {t : TypeId} {cap : Nat} {ys : List Int} (h : RowC W b t cap ys) (j : Nat) (hj : j < ys.length) : W.cell? ⟨b, j, none⟩ = some (.int .i64 (ys.getD j 0)) := by
  rw [h.cell j hj, List.getD_eq_getElem?_getD, List.getElem?_eq_getElem hj]; rfl
structure Bs where
  am : List Am
  of : List Int
  all : Int
/-- what newBook does with a cell -/
def stepB (n i k : Nat) (x : Int) (s : Bs) : Bs :=
  ⟨s.am ++ [⟨(i : Int), 6 + (k : Int), x⟩], (s.of.set i (wrap64 (s.of.getD i 0 + x))).set (n + k) (wrap64 ((s.of.set i (wrap64 (s.of.getD i 0 + x))).getD (n + k) 0 + x)), wrap64 (s.all + x)⟩
def lineB (n i : Nat) : Nat → List Int → Bs → Bs
  | _, [], s => s
  | k, x :: xs, s => lineB n i (k + 1) xs (stepB n i k x s)
def linesB (n : Nat) : Nat → List (List Int) → Bs → Bs
  | _, [], s => s
  | i, x :: l, s => linesB n (i + 1) l (lineB n i 0 x s)
def sumsL (n : Nat) (of : List Int) (i : Nat) : List Am := (List.range i).map fun (i : Nat) => ⟨12, (i : Int), of.getD i 0⟩
def sumsC (n : Nat) (of : List Int) (k : Nat) : List Am := (List.range k).map fun (k : Nat) => ⟨6 + (k : Int), 13, of.getD (n + k) 0⟩
def endB (n m : Nat) (s : Bs) : List Am := s.am ++ sumsL n s.of n ++ sumsC n s.of m ++ [⟨13, 12, s.all⟩]
def bookB (l : List (List Int)) : Bs := linesB l.length 0 l ⟨[], List.replicate (l.length + (rd_L2 l 0).length) 0, 0⟩
/-- the amounts of a book -/
def bookAm (l : List (List Int)) : List Am := endB l.length (rd_L2 l 0).length (bookB l)
theorem lineB_len (n i : Nat) : ∀ (xs : List Int) (k : Nat) (s : Bs), (lineB n i k xs s).am.length = s.am.length + xs.length ∧ (lineB n i k xs s).of.length = s.of.length
  | [], k, s => ⟨rfl, rfl⟩
  | x :: xs, k, s => by
    have h := lineB_len n i xs (k + 1) (stepB n i k x s)
    rw [lineB]
    refine ⟨(by rw [h.1]; simp [stepB]; omega), (by rw [h.2]; simp [stepB])⟩
theorem linesB_len (n m : Nat) : ∀ (l : List (List Int)) (i : Nat) (s : Bs), (∀ x ∈ l, x.length = m) → (linesB n i l s).am.length = s.am.length + l.length * m ∧ (linesB n i l s).of.length = s.of.length
  | [], i, s, h => ⟨(by simp [linesB]), rfl⟩
  | x :: l, i, s, h => by
    have h1 := lineB_len n i x 0 s
    have h2 := linesB_len n m l (i + 1) (lineB n i 0 x s) (fun y hy => h y (List.mem_cons_of_mem _ hy))
    rw [linesB]
    refine ⟨?_, (by rw [h2.2, h1.2])⟩
    rw [h2.1, h1.1, h x (List.mem_cons_self ..), List.length_cons, Nat.add_mul]
    omega
def zero14 : List Int := [0, 0, 0, 0, 0, 0, 0, 0, 0, 0, 0, 0, 0, 0]
/-- what newBook leaves -/
def BookPost (w : World) (den : Int) (vc : Value) (l : List (List Int)) (e : Ending) (w' : World) : Prop :=
  ∃ B base bA cA, e = .returned (.pointer (some ⟨B, 0, none⟩)) ∧ BookAt w' B base den vc (.slice (some ⟨bA, 0, none⟩) (bookAm l).length cA) (bookAm l) zero14 ∧ w.heap.size ≤ B ∧ B < base ∧ Below w.heap.size w w'
def newBookP.T21 : Bool × List (List Nat × List Nat) := (true, [([], []), ([], []), ([1], [1]), ([2], [2]), ([3], [3]), ([], []), ([], []), ([], []), ([], []), ([7, 8], [7, 8]), ([9], [9]), ([5, 6, 10], [5, 6, 10]), ([11], [11]), ([4, 12], [4, 12]), ([0, 0, 1, 2, 3, 4, 5, 6, 7, 8, 9, 10, 11, 12, 13], [0]), ([14, 0, 1, 2, 3, 4, 5, 6, 7, 8, 9, 10, 11, 12, 13], [14]), ([15, 13, 13, 0, 1, 2, 3, 4, 5, 6, 7, 8, 9, 10, 11, 12, 13], [13, 15])])
def newBookP.B21 : List Nat := [0, 0, 2, 6, 14, 0, 0, 0, 0, 384, 896, 2016, 4064, 8190, 16383, 32767, 65535]
theorem newBookP.tab21 : rtab .any (opsOf Try.f67 21) = newBookP.T21 := by kernel_rfl
theorem newBookP.bits21 : waitsOk newBookP.T21.2 newBookP.B21 = true := by kernel_rfl
def newBookP.T26 : Bool × List (List Nat × List Nat) := (true, [([], []), ([], []), ([1], [1]), ([2], [2]), ([3], [3]), ([], []), ([5], [5]), ([], []), ([], []), ([], []), ([], []), ([9, 10], [9, 10]), ([8, 11], [8, 11]), ([12], [12]), ([6, 7, 13], [6, 7, 13]), ([14], [14]), ([4, 15], [4, 15]), ([0, 0, 1, 2, 3, 4, 5, 6, 7, 8, 9, 10, 11, 12, 13, 14, 15, 16], [0]), ([17, 0, 1, 2, 3, 4, 5, 6, 7, 8, 9, 10, 11, 12, 13, 14, 15, 16], [17]), ([18, 16, 16, 0, 1, 2, 3, 4, 5, 6, 7, 8, 9, 10, 11, 12, 13, 14, 15, 16], [16, 18])])
def newBookP.B26 : List Nat := [0, 0, 2, 6, 14, 0, 32, 0, 0, 0, 0, 1536, 3840, 7936, 16352, 32736, 65534, 131071, 262143, 524287]
theorem newBookP.tab26 : rtab .any (opsOf Try.f67 26) = newBookP.T26 := by kernel_rfl
theorem newBookP.bits26 : waitsOk newBookP.T26.2 newBookP.B26 = true := by kernel_rfl
set_option maxHeartbeats 4000000 in
set_option maxRecDepth 100000 in
theorem newBook_calls (den : Int) (A : Option Addr) (c : Nat) (l : List (List Int)) (w : World) (hr : Kd.C (Kd.slice 2 (Kd.int .i64)) w A l.length l) (hcl : l.length ≤ c)
    (hn0 : 0 < l.length) (hn6 : l.length ≤ 6) (hm6 : (rd_L2 l 0).length ≤ 6) (hm : ∀ x ∈ l, x.length = (rd_L2 l 0).length) :
    Calls Try.prog 67 #[.agg #[.int .i64 den, .slice A l.length c]] w (BookPost w den (.slice A l.length c) l) := by
  have HL := Lib.hid hr.2.1
  obtain ⟨ad, A0, c0, eA, hc0, hb0⟩ := row0 hr hn0
  subst eA
  obtain ⟨cs, hmk, hcs1, hcs2⟩ := make48 (l.length + (rd_L2 l 0).length) (by omega)
  rw [Int.natCast_add] at hmk
  have HCS := Lib.hid (And.intro hcs1 hcs2)
  have hp2 : 0 < (l.length : Int) := by omega
  have HB1 := Lib.hid (boxes2 w (.cells #[.int .i64 den, .slice (some ad) l.length c] 39) (.cells #[.int .i64 den, .slice (some ad) l.length c, .slice none 0 0, .int .i64 0, .int .i64 0, .int .i64 0, .int .i64 0, .int .i64 0, .int .i64 0, .int .i64 0, .int .i64 0, .int .i64 0, .int .i64 0, .int .i64 0, .int .i64 0, .int .i64 0, .int .i64 0] 96))
  have BT := Lib.hid (blk_alloc (blk_new w (.cells #[.int .i64 den, .slice (some ad) l.length c] 39)) (.cells #[.int .i64 den, .slice (some ad) l.length c, .slice none 0 0, .int .i64 0, .int .i64 0, .int .i64 0, .int .i64 0, .int .i64 0, .int .i64 0, .int .i64 0, .int .i64 0, .int .i64 0, .int .i64 0, .int .i64 0, .int .i64 0, .int .i64 0, .int .i64 0] 96))
  have BB := blk_new (w.alloc (.cells #[.int .i64 den, .slice (some ad) l.length c] 39)) (.cells #[.int .i64 den, .slice (some ad) l.length c, .slice none 0 0, .int .i64 0, .int .i64 0, .int .i64 0, .int .i64 0, .int .i64 0, .int .i64 0, .int .i64 0, .int .i64 0, .int .i64 0, .int .i64 0, .int .i64 0, .int .i64 0, .int .i64 0, .int .i64 0] 96)
  simp only [World.size_alloc] at BB
  replace BB := Lib.hid BB
  have HR := Lib.hid hr
  have HM := Lib.hid hm
  have HN := Lib.hid (show 0 < l.length ∧ l.length ≤ 6 ∧ (rd_L2 l 0).length ≤ 6 from ⟨hn0, hn6, hm6⟩)
  have HC0 := Lib.hid hc0
  clear hr hcs1 hcs2 hm hcl
  have eSL : (rd_L2 l 0).length = (rd_L2 l 0).length := rfl
  generalize en0 : (rd_L2 l 0).length = n0 at *
  go_enter Try.func67, Try.ntmps67
  go_upto_region 2 with (fail)
  clear hc0 hb0
  generalize (w.alloc (.cells #[.int .i64 den, .slice (some ad) l.length c] 39)).alloc (.cells #[.int .i64 den, .slice (some ad) l.length c, .slice none 0 0, .int .i64 0, .int .i64 0, .int .i64 0, .int .i64 0, .int .i64 0, .int .i64 0, .int .i64 0, .int .i64 0, .int .i64 0, .int .i64 0, .int .i64 0, .int .i64 0, .int .i64 0, .int .i64 0] 96) = W0 at *
  obtain ⟨B, eB⟩ : ∃ B, w.heap.size + 1 = B := ⟨_, rfl⟩
  rw [eB] at BB ⊢
  obtain ⟨gt, eg⟩ : ∃ g, w.heap.size = g := ⟨_, rfl⟩
  have y1 : W0.cell? ⟨gt, 1, none⟩ = some (.slice (some ad) l.length c) := by rw [← eg]; exact (blk_cell BT.out 1).trans rfl
  have y2 : W0.cell? ad = some (.slice A0 n0 c0) := cell_in HB1.out HC0.out
  have HE := Lib.hid (show w.heap.size = gt ∧ w.heap.size + 1 = B from ⟨eg, eB⟩)
  rw [eg]
  clear eg eB
  go_quiet (fail)
  have hb1 := drawn_below (W := W0) (W' := W0.drewN nq) ⟨nq, rfl⟩
  have HB2 := Lib.hid (below_then HB1.out HB1.out.size hb1)
  have hBB := blk_below BB.out hb1
  have HT := Lib.hid (blk_below BT.out hb1)
  clear y1 y2
  generalize W0.drewN nq = W1 at *
  go_upto_region 4 with (fail)
  have hb2 := below_alloc (Below.refl W1.heap.size W1) (.cells cs 2)
  have HT2 := Lib.hid (blk_below HT.out hb2)
  have hlenS : ((List.replicate (l.length + n0) 0 : List Int)).length = l.length + n0 := List.length_replicate
  have NB := Lib.hid (show NBk w (W1.alloc (.cells cs 2)) B W1.heap.size den (.slice (some ad) l.length c) (.slice none 0 0) [] (List.replicate (l.length + n0) 0) from
    ⟨⟨blk_below hBB hb2, ⟨rfl, .inl ⟨rfl, rfl⟩⟩, rfl⟩, by
      rw [hlenS]
      exact ⟨⟨cs, blk_new _ _, HCS.out.1, fun j hj => by rw [HCS.out.2 j (by rw [hlenS] at hj; exact hj)]; simp⟩, (by rw [hlenS]; exact Nat.le_refl _), (by have : maxLen = 9223372036854775807 := rfl; have := HN.out; omega)⟩, blk_lt hBB, by have := HE.out; omega, below_then HB2.out HB2.out.size hb2⟩)
  clear hmk hb1 hBB hb2 hlenS
  generalize eW : W1.alloc (.cells cs 2) = W2 at *
  clear eW
  obtain ⟨bO, eO⟩ : ∃ b, W1.heap.size = b := ⟨_, rfl⟩
  rw [eO] at NB ⊢
  clear eO
  have x1 : W2.cell? ⟨gt, 1, none⟩ = some (.slice (some ad) l.length c) := by rw [← HE.out.1]; exact (blk_cell HT2.out 1).trans rfl
  go_wp2
  clear x1
  have HST := Lib.hid (show linesB l.length 0 l ⟨[], List.replicate (l.length + n0) 0, 0⟩ = bookB l by unfold bookB; rw [en0])
  have HEN := Lib.hid en0
  clear en0 hn0 hn6 hm6
  go_loopg [7, 34] l.length (fun kq v7 v34 w' => ∃ (i : Nat) (s : Bs) (vA : Value), v34 = .int .i64 i ∧ v7 = .int .i64 s.all ∧ Aside0 (i + kq = l.length) ∧ Aside0 (linesB l.length i (l.drop i) s = bookB l) ∧ Aside0 (s.am.length = i * n0 ∧ s.of.length = l.length + n0) ∧ Aside0 (NBk w w' B bO den (.slice (some ad) l.length c) vA s.am s.of))
  case atStart => exact ⟨0, ⟨[], List.replicate (l.length + n0) 0, 0⟩, .slice none 0 0, rfl, rfl, ⟨(by omega)⟩, ⟨HST.out⟩, ⟨(by simp)⟩, ⟨NB.out⟩⟩
  clear NB HST HT2 HT
  obtain ⟨i, s, vA, rfl, rfl, HI, HS, HLN, NB⟩ := hrel
  cases gk with
  | succ k1 => as_aux_lemma =>
    have hi : i < l.length := by have := HI.out; omega
    have hlt : decide (i < l.length) = true := by simp [hi]
    have hlt2 : decide ((i : Int) < (l.length : Int)) = true := decide_eq_true (by omega)
    obtain ⟨ad', A1, c1, e0, hc1', hle1, hC1⟩ := at_L2 HR.out (i : Int) (by omega) (by omega)
    cases e0
    have hc1 := cell_in NB.out.g hc1'
    have hx := HM.out l[i] (List.getElem_mem hi)
    rw [Int.toNat_natCast] at hc1
    rw [rd_L2_nat l i hi] at hc1 hle1 hC1
    have hstep : linesB l.length i (l.drop i) s = linesB l.length (i + 1) (l.drop (i + 1)) (lineB l.length i 0 l[i] s) := by rw [List.drop_eq_getElem_cons hi]; rfl
    have HSX := Lib.hid (hstep.symm.trans HS.out)
    have HC1 := Lib.hid hC1
    have HX := Lib.hid hx
    have HLE1 := Lib.hid hC1.2.1
    clear hc1' hC1 hx hstep HS
    generalize l[i] = x at *
    go_wp2
    go_loopg [7, 41] x.length (fun kq v7 v41 w' => ∃ (k : Nat) (s' : Bs) (vA : Value), v41 = .int .i64 k ∧ v7 = .int .i64 s'.all ∧ Aside0 (k + kq = x.length) ∧ Aside0 (linesB l.length (i + 1) (l.drop (i + 1)) (lineB l.length i k (x.drop k) s') = bookB l) ∧ Aside0 (s'.am.length = i * n0 + k ∧ s'.of.length = l.length + n0) ∧ Aside0 (NBk w w' B bO den (.slice (some ad) l.length c) vA s'.am s'.of))
    case atStart => exact ⟨0, s, vA, rfl, rfl, ⟨(by omega)⟩, ⟨HSX.out⟩, ⟨(by have := HLN.out; omega)⟩, ⟨NB.out⟩⟩
    have NB0 := Lib.hid NB.out.g
    clear NB HLN HSX
    obtain ⟨k, s', vA', rfl, rfl, HK, HS, HLN, NB⟩ := hrel
    cases gk with
    | zero => as_aux_lemma =>
      have hkx : k = x.length := by have := HK.out; omega
      have hlt3 : decide (k < x.length) = false := by simp [hkx]
      have hlt4 : decide ((k : Int) < (x.length : Int)) = false := decide_eq_false (by omega)
      have HS2 := Lib.hid (show linesB l.length (i + 1) (l.drop (i + 1)) s' = bookB l by
        have := HS.out
        rw [show x.drop k = [] from List.drop_of_length_le (by omega)] at this
        exact this)
      have HLN2 := Lib.hid (show s'.am.length = (i + 1) * n0 ∧ s'.of.length = l.length + n0 by
        have := HLN.out
        have := HX.out
        rw [Nat.add_mul]
        omega)
      have hi6 : (i : Int) ≤ 10 := by have := HN.out; omega
      clear hkx
      go_wp2
      go_roundg k1
      case rel => exact ⟨i + 1, s', vA', (by go_num), rfl, ⟨b21_⟩, ⟨HS2.out⟩, ⟨HLN2.out⟩, ⟨NB.out⟩⟩
      case measure => omega
    | succ k2 => as_aux_lemma =>
      have hkx : k < x.length := by have := HK.out; omega
      have hlt3 : decide (k < x.length) = true := by simp [hkx]
      have hlt4 : decide ((k : Int) < (x.length : Int)) = true := decide_eq_true (by omega)
      obtain ⟨ad2, e0, hcx⟩ := Kd.at_int (Kd.C_below HC1.out NB.out.g) (k : Int) (by omega) (by omega)
      cases e0
      rw [Int.toNat_natCast, rd_nat x k hkx] at hcx
      have HS2 := Lib.hid (show linesB l.length (i + 1) (l.drop (i + 1)) (lineB l.length i (k + 1) (x.drop (k + 1)) (stepB l.length i k x[k] s')) = bookB l by
        have := HS.out
        rw [show x.drop k = x[k] :: x.drop (k + 1) from List.drop_eq_getElem_cons hkx] at this
        exact this)
      generalize x[k] = y at *
      have hk6 : (k : Int) ≤ 10 := by have := HN.out; have := HX.out; omega
      have hi6 : (i : Int) ≤ 10 := by have := HN.out; omega
      have hal : s'.am.length ≤ 1000 := by
        have h1 := HLN.out
        have h2 := HN.out
        have h3 := HX.out
        have : i * n0 ≤ 6 * 6 := Nat.mul_le_mul (by omega) (by omega)
        omega
      have b2 := NB.out.bk.c2
      go_upto_region 11 with (fail)
      clear hcx
      obtain ⟨g', c', w', hap, hz2, hfz2, _, hnb⟩ := NB.out.app ⟨(i : Int), 6 + (k : Int), y⟩ hal
      have HNB := Lib.hid hnb
      clear hnb
      go_upto_region 12 with ((with_reducible refine gate_builtin (b := .append) (xs := #[.tmp 50, .tmp 56]) rfl ?_); at_builtin; refine append_run rfl (.tmp 50) (.tmp 56) 92 rfl _ _ _ w' rfl rfl hap ?_)
      clear hap hz2 hfz2 b2 NB
      generalize w'.setCell ⟨B, 2, none⟩ (.slice (some ⟨g', 0, none⟩) (s'.am.length + 1) c') = W3 at *
      have hol : s'.of.length = l.length + n0 := HLN.out.2
      have hio : i < s'.of.length := by omega
      obtain ⟨o1, eo1⟩ : ∃ o1, s'.of.getD i 0 = o1 := ⟨_, rfl⟩
      have ho1 : W3.cell? ⟨bO, i, none⟩ = some (.int .i64 o1) := by rw [← eo1]; exact HNB.out.row.gcell i hio
      have EO1 := Lib.hid eo1
      clear eo1
      have ho2 := HNB.out.row.fz i
      have hib : (i : Int) < (l.length : Int) + (n0 : Int) := by omega
      have hib2 : i < l.length + n0 := by omega
      have HOL := Lib.hid hol
      clear hol
      go_upto_region 13 with (fail)
      clear ho1 ho2 hib hib2
      have HNB2 := Lib.hid (HNB.out.setOf i hio (wrap64 (o1 + y)))
      generalize eW3 : W3.setCell ⟨bO, i, none⟩ (.int .i64 (wrap64 (o1 + y))) = W4 at *
      have hko : l.length + k < (s'.of.set i (wrap64 (o1 + y))).length := by rw [List.length_set, HOL.out]; have := HX.out; omega
      obtain ⟨o2, eo2⟩ : ∃ o2, (s'.of.set i (wrap64 (o1 + y))).getD (l.length + k) 0 = o2 := ⟨_, rfl⟩
      have ho1 : W4.cell? ⟨bO, l.length + k, none⟩ = some (.int .i64 o2) := by rw [← eo2]; exact HNB2.out.row.gcell _ hko
      have EO2 := Lib.hid eo2
      clear eo2
      have ho2 := HNB2.out.row.fz (l.length + k)
      have hib : (l.length : Int) + (k : Int) < (l.length : Int) + (n0 : Int) := by have := HX.out; omega
      have hib2 : l.length + k < l.length + n0 := by have := HX.out; omega
      have hib3 : 0 ≤ (l.length : Int) + (k : Int) := by omega
      have hib4 : ((l.length : Int) + (k : Int)).toNat = l.length + k := by omega
      have hl6 : (l.length : Int) ≤ 10 := by have := HN.out; omega
      clear HNB eW3
      go_upto_region 14 with (fail)
      clear ho1 ho2 hib hib2 hib3 hib4
      have HNB3 := Lib.hid (HNB2.out.setOf (l.length + k) hko (wrap64 (o2 + y)))
      have HLN2 := Lib.hid (show (stepB l.length i k y s').am.length = i * n0 + (k + 1) ∧ (stepB l.length i k y s').of.length = l.length + n0 by
        have h1 := HLN.out
        simp only [stepB, List.length_append, List.length_set, List.length_cons, List.length_nil]
        omega)
      clear HNB2
      generalize W4.setCell ⟨bO, l.length + k, none⟩ (.int .i64 (wrap64 (o2 + y))) = W5 at *
      have HNB4 := Lib.hid (show NBk w W5 B bO den (.slice (some ad) l.length c) (.slice (some ⟨g', 0, none⟩) (s'.am.length + 1) c') (stepB l.length i k y s').am (stepB l.length i k y s').of from by
        have := HNB3.out
        rw [← EO2.out, ← EO1.out] at this
        exact this)
      go_wp2
      go_roundg k2
      case rel => exact ⟨k + 1, stepB l.length i k y s', .slice (some ⟨g', 0, none⟩) (s'.am.length + 1) c', (by go_num), rfl, ⟨(by have := HK.out; omega)⟩, ⟨HS2.out⟩, ⟨HLN2.out⟩, ⟨HNB4.out⟩⟩
      case measure => omega
  | zero => ?_
  have hi : i = l.length := by have := HI.out; omega
  have hlt : decide (i < l.length) = false := by rw [hi]; simp
  have hlt2 : decide ((i : Int) < (l.length : Int)) = false := decide_eq_false (by omega)
  have hS : s = bookB l := by
    have := HS.out
    rw [show l.drop i = [] from List.drop_of_length_le (by omega)] at this
    exact this
  have HSB := Lib.hid hS
  have HSL := Lib.hid HLN.out.2
  have HAM := Lib.hid (show s.am.length ≤ 36 by
    have h1 := HLN.out.1
    have h2 := HN.out
    have : i * n0 ≤ 6 * 6 := Nat.mul_le_mul (by omega) (by omega)
    omega)
  have hl6 : (l.length : Int) ≤ 10 := by have := HN.out; omega
  have hn6 : (n0 : Int) ≤ 10 := by have := HN.out; omega
  have NB2 := Lib.hid (show NBk w wr B bO den (.slice (some ad) l.length c) vA (s.am ++ sumsL l.length s.of 0) s.of by
    have := NB.out
    unfold sumsL
    rw [List.range_zero, List.map_nil, List.append_nil]
    exact this)
  clear hi hS HS HLN NB
  go_wp2
  go_loopg [82] l.length (fun kq v82 w' => ∃ (q : Nat) (vA : Value), v82 = .int .i64 q ∧ Aside0 (q + kq = l.length) ∧ Aside0 (NBk w w' B bO den (.slice (some ad) l.length c) vA (s.am ++ sumsL l.length s.of q) s.of))
  case atStart => exact ⟨0, vA, rfl, ⟨(by omega)⟩, ⟨NB2.out⟩⟩
  clear NB2 vA
  obtain ⟨q, vA, rfl, HI, NB⟩ := hrel
  cases gk with
  | succ k1 => as_aux_lemma =>
    have hq : q < l.length := by have := HI.out; omega
    have hlt : decide (q < l.length) = true := by simp [hq]
    have hlt2 : decide ((q : Int) < (l.length : Int)) = true := decide_eq_true (by omega)
    have hqb : (q : Int) < (l.length : Int) + (n0 : Int) := by omega
    have hqb2 : q < l.length + n0 := by omega
    have hal : (s.am ++ sumsL l.length s.of q).length ≤ 1000 := by
      have := HAM.out
      simp only [List.length_append, sumsL, List.length_map, List.length_range]
      omega
    go_upto_region 21 with (fail)
    obtain ⟨oq, eoq⟩ : ∃ oq, s.of.getD (q) 0 = oq := ⟨_, rfl⟩
    obtain ⟨Wd, ed⟩ : ∃ Wd, wr.drew = Wd := ⟨_, rfl⟩
    have hd : Below wr.heap.size wr Wd := by rw [← ed]; exact below_drew (Below.refl _ _)
    have hNd := NB.out.below hd
    have hoq : q < s.of.length := by rw [HSL.out]; omega
    have hoc : Wd.cell? ⟨bO, q, none⟩ = some (.int .i64 oq) := by rw [← eoq]; exact hNd.row.gcell _ hoq
    obtain ⟨g', c', w', hap, hz2, hfz2, hrw, hnb⟩ := hNd.app ⟨12, (q : Int), oq⟩ hal
    have HNB := Lib.hid hnb
    have hoc2 : w'.cell? ⟨bO, q, none⟩ = some (.int .i64 oq) := by rw [← eoq]; exact hrw.gcell _ hoq
    have hAl := below_alloc (Below.refl Wd.heap.size Wd) (.cells #[.int .i64 12, .int .i64 ((q : Int)), .int .i64 oq] 98)
    have EOQ := Lib.hid eoq
    clear eoq hnb
    refine sA_ 17 (fun w' => w'.cell? ⟨B, 2, none⟩ = some vA ∧ w'.cell? ⟨bO, q, none⟩ = some (.int .i64 oq)) [16] newBookP.tab21 newBookP.bits21 (by rw [ed]; exact ⟨hNd.bk.c2, hoc⟩) (fun hHeld HT_ HW_ => ?_)
    rw [ed] at hHeld ⊢
    refine pA_ 0 (some 85) 17 1 ?_
    refine pA_ 1 (some 86) 17 3 ?_
    refine pA_ 2 (some 87) 17 7 ?_
    refine pA_ 3 (some 88) 17 15 ?_
    refine pA_ 5 (some 90) 17 47 ?_
    refine pA_ 6 (some 91) 17 111 ?_
    refine pA_ 7 (some 92) 17 239 ?_
    refine pA_ 8 (some 93) 17 495 ?_
    refine pA_ 9 (some 94) 17 1007 ?_
    refine tB_ 4 (some 89) 17 1023 ?_
    refine tB_ 10 (some 95) 17 2047 ?_
    refine pA_ 11 (some 96) 17 4095 ?_
    refine oA_ 12 (some 97) 17 8191 (fun K hK => ?_)
    refine event_step (by rfl) (w1 := Wd.alloc (.cells #[.int .i64 12, .int .i64 ((q : Int)), .int .i64 oq] 98)) (v := .slice (some ⟨Wd.heap.size, 0, none⟩) 1 1) (by go_simp) ?_
    refine hK.out _ _ ⟨cell_in hAl hNd.bk.c2, cell_in hAl hoc⟩ (fun hHeld => ?_)
    clear hK K
    refine nA_ (some 97) ?_
    refine oA_ 13 (some 98) 17 16383 (fun K hK => ?_)
    refine append_step (by rfl) (.tmp 89) (.tmp 97) 92 rfl _ _ _ w' rfl rfl hap ?_
    refine hK.out _ _ ⟨hz2, hoc2⟩ (fun hHeld => ?_)
    clear hK K
    refine nA_ (some 98) ?_
    refine pA_ 14 (some 99) 17 32767 ?_
    refine pA_ 15 (some 100) 17 65535 ?_
    refine oL_ 16 none 17 131071 (fun K hK => ?_)
    refine skip_ (w1 := w'.setCell ⟨B, 2, none⟩ (.slice (some ⟨g', 0, none⟩) ((s.am ++ sumsL l.length s.of q).length + 1) c')) (by rfl) rfl ?_ ?_
    · go_simp
    refine hK.out _ _ ?_
    clear hK K
    refine dA_ ?_
    clear hHeld HT_ HW_ hap hz2 hfz2 hrw hoc hoc2 hNd hAl hd ed
    have HNB2 := Lib.hid (show NBk w (w'.setCell ⟨B, 2, none⟩ (.slice (some ⟨g', 0, none⟩) ((s.am ++ sumsL l.length s.of q).length + 1) c')) B bO den (.slice (some ad) l.length c) (.slice (some ⟨g', 0, none⟩) ((s.am ++ sumsL l.length s.of q).length + 1) c') (s.am ++ sumsL l.length s.of (q + 1)) s.of by
      have e : s.am ++ sumsL l.length s.of (q + 1) = s.am ++ sumsL l.length s.of q ++ [⟨12, (q : Int), oq⟩] := by
        unfold sumsL
        rw [List.range_succ, List.map_append, ← EOQ.out, List.append_assoc]
        rfl
      rw [e]
      exact HNB.out)
    clear HNB
    generalize w'.setCell ⟨B, 2, none⟩ (.slice (some ⟨g', 0, none⟩) ((s.am ++ sumsL l.length s.of q).length + 1) c') = W5 at *
    go_wp2
    go_roundg k1
    case rel => exact ⟨q + 1, _, (by go_num), ⟨b21_⟩, ⟨HNB2.out⟩⟩
    case measure => omega
  | zero => ?_
  have hq : q = l.length := by have := HI.out; omega
  have hlt : decide (q < l.length) = false := by simp [hq]
  have hlt2 : decide ((q : Int) < (l.length : Int)) = false := decide_eq_false (by omega)
  have NB2 := Lib.hid (show NBk w wr B bO den (.slice (some ad) l.length c) vA (s.am ++ sumsL l.length s.of l.length ++ sumsC l.length s.of 0) s.of by
    have := NB.out
    rw [hq] at this
    unfold sumsC
    rw [List.range_zero, List.map_nil, List.append_nil]
    exact this)
  clear hq NB
  go_wp2
  go_loopg [103] n0 (fun kq v103 w' => ∃ (q : Nat) (vA : Value), v103 = .int .i64 q ∧ Aside0 (q + kq = n0) ∧ Aside0 (NBk w w' B bO den (.slice (some ad) l.length c) vA (s.am ++ sumsL l.length s.of l.length ++ sumsC l.length s.of q) s.of))
  case atStart => exact ⟨0, vA, rfl, ⟨(by omega)⟩, ⟨NB2.out⟩⟩
  clear NB2 HI vA
  obtain ⟨q, vA, rfl, HI, NB⟩ := hrel
  cases gk with
  | succ k1 => as_aux_lemma =>
    have hq : q < n0 := by have := HI.out; omega
    have hlt : decide (q < n0) = true := by simp [hq]
    have hlt2 : decide ((q : Int) < (n0 : Int)) = true := decide_eq_true (by omega)
    have hqb : (l.length : Int) + (q : Int) < (l.length : Int) + (n0 : Int) := by omega
    have hqb2 : l.length + q < l.length + n0 := by omega
    have hqb3 : 0 ≤ (l.length : Int) + (q : Int) := by omega
    have hqb4 : ((l.length : Int) + (q : Int)).toNat = l.length + q := by omega
    have hq6 : (q : Int) ≤ 10 := by omega
    have hqb5 : wrap64 ((l.length : Int) + (q : Int)) = (l.length : Int) + (q : Int) := by unfold wrap64; omega
    have hqb6 : wrap64 (6 + (q : Int)) = 6 + (q : Int) := by unfold wrap64; omega
    have hal : (s.am ++ sumsL l.length s.of l.length ++ sumsC l.length s.of q).length ≤ 1000 := by
      have := HAM.out
      simp only [List.length_append, sumsL, sumsC, List.length_map, List.length_range]
      omega
    go_upto_region 26 with (fail)
    obtain ⟨oq, eoq⟩ : ∃ oq, s.of.getD (l.length + q) 0 = oq := ⟨_, rfl⟩
    obtain ⟨Wd, ed⟩ : ∃ Wd, wr.drew = Wd := ⟨_, rfl⟩
    have hd : Below wr.heap.size wr Wd := by rw [← ed]; exact below_drew (Below.refl _ _)
    have hNd := NB.out.below hd
    have hoq : l.length + q < s.of.length := by rw [HSL.out]; omega
    have hoc : Wd.cell? ⟨bO, l.length + q, none⟩ = some (.int .i64 oq) := by rw [← eoq]; exact hNd.row.gcell _ hoq
    obtain ⟨g', c', w', hap, hz2, hfz2, hrw, hnb⟩ := hNd.app ⟨6 + (q : Int), 13, oq⟩ hal
    have HNB := Lib.hid hnb
    have hoc2 : w'.cell? ⟨bO, l.length + q, none⟩ = some (.int .i64 oq) := by rw [← eoq]; exact hrw.gcell _ hoq
    have hAl := below_alloc (Below.refl Wd.heap.size Wd) (.cells #[.int .i64 (6 + (q : Int)), .int .i64 13, .int .i64 oq] 98)
    have EOQ := Lib.hid eoq
    clear eoq hnb
    refine sA_ 20 (fun w' => w'.cell? ⟨B, 2, none⟩ = some vA ∧ w'.cell? ⟨bO, l.length + q, none⟩ = some (.int .i64 oq)) [19] newBookP.tab26 newBookP.bits26 (by rw [ed]; exact ⟨hNd.bk.c2, hoc⟩) (fun hHeld HT_ HW_ => ?_)
    rw [ed] at hHeld ⊢
    refine pA_ 0 (some 106) 20 1 ?_
    refine pA_ 1 (some 107) 20 3 ?_
    refine pA_ 2 (some 108) 20 7 ?_
    refine pA_ 3 (some 109) 20 15 ?_
    refine pA_ 5 (some 111) 20 47 ?_
    refine pA_ 6 (some 112) 20 111 ?_
    refine pA_ 7 (some 113) 20 239 ?_
    refine pA_ 8 (some 114) 20 495 ?_
    refine pA_ 9 (some 115) 20 1007 ?_
    refine pA_ 10 (some 116) 20 2031 ?_
    refine pA_ 11 (some 117) 20 4079 ?_
    refine pA_ 12 (some 118) 20 8175 ?_
    refine tB_ 4 (some 110) 20 8191 ?_
    refine tB_ 13 (some 119) 20 16383 ?_
    refine pA_ 14 (some 120) 20 32767 ?_
    refine oA_ 15 (some 121) 20 65535 (fun K hK => ?_)
    refine event_step (by rfl) (w1 := Wd.alloc (.cells #[.int .i64 (6 + (q : Int)), .int .i64 13, .int .i64 oq] 98)) (v := .slice (some ⟨Wd.heap.size, 0, none⟩) 1 1) (by go_simp) ?_
    refine hK.out _ _ ⟨cell_in hAl hNd.bk.c2, cell_in hAl hoc⟩ (fun hHeld => ?_)
    clear hK K
    refine nA_ (some 121) ?_
    refine oA_ 16 (some 122) 20 131071 (fun K hK => ?_)
    refine append_step (by rfl) (.tmp 110) (.tmp 121) 92 rfl _ _ _ w' rfl rfl hap ?_
    refine hK.out _ _ ⟨hz2, hoc2⟩ (fun hHeld => ?_)
    clear hK K
    refine nA_ (some 122) ?_
    refine pA_ 17 (some 123) 20 262143 ?_
    refine pA_ 18 (some 124) 20 524287 ?_
    refine oL_ 19 none 20 1048575 (fun K hK => ?_)
    refine skip_ (w1 := w'.setCell ⟨B, 2, none⟩ (.slice (some ⟨g', 0, none⟩) ((s.am ++ sumsL l.length s.of l.length ++ sumsC l.length s.of q).length + 1) c')) (by rfl) rfl ?_ ?_
    · go_simp
    refine hK.out _ _ ?_
    clear hK K
    refine dA_ ?_
    clear hHeld HT_ HW_ hap hz2 hfz2 hrw hoc hoc2 hNd hAl hd ed
    have HNB2 := Lib.hid (show NBk w (w'.setCell ⟨B, 2, none⟩ (.slice (some ⟨g', 0, none⟩) ((s.am ++ sumsL l.length s.of l.length ++ sumsC l.length s.of q).length + 1) c')) B bO den (.slice (some ad) l.length c) (.slice (some ⟨g', 0, none⟩) ((s.am ++ sumsL l.length s.of l.length ++ sumsC l.length s.of q).length + 1) c') (s.am ++ sumsL l.length s.of l.length ++ sumsC l.length s.of (q + 1)) s.of by
      have e : s.am ++ sumsL l.length s.of l.length ++ sumsC l.length s.of (q + 1) = s.am ++ sumsL l.length s.of l.length ++ sumsC l.length s.of q ++ [⟨6 + (q : Int), 13, oq⟩] := by
        unfold sumsC
        rw [List.range_succ, List.map_append, ← EOQ.out, ← List.append_assoc]
        rfl
      rw [e]
      exact HNB.out)
    clear HNB
    generalize w'.setCell ⟨B, 2, none⟩ (.slice (some ⟨g', 0, none⟩) ((s.am ++ sumsL l.length s.of l.length ++ sumsC l.length s.of q).length + 1) c') = W5 at *
    go_wp2
    go_roundg k1
    case rel => exact ⟨q + 1, _, (by go_num), ⟨b21_⟩, ⟨HNB2.out⟩⟩
    case measure => omega
  | zero => as_aux_lemma =>
    have hq : q = n0 := by have := HI.out; omega
    have hlt : decide (q < n0) = false := by simp [hq]
    have hlt2 : decide ((q : Int) < (n0 : Int)) = false := decide_eq_false (by omega)
    have NB2 := Lib.hid (show NBk w wr B bO den (.slice (some ad) l.length c) vA (s.am ++ sumsL l.length s.of l.length ++ sumsC l.length s.of n0) s.of by
      have := NB.out
      rw [hq] at this
      exact this)
    have hal : (s.am ++ sumsL l.length s.of l.length ++ sumsC l.length s.of n0).length ≤ 1000 := by
      have := HAM.out
      simp only [List.length_append, sumsL, sumsC, List.length_map, List.length_range]
      omega
    clear hq NB
    replace NB2 := NB2.out
    obtain ⟨am', eam⟩ : ∃ am', s.am ++ sumsL l.length s.of l.length ++ sumsC l.length s.of n0 = am' := ⟨_, rfl⟩
    rw [eam] at NB2 hal
    have b2 := NB2.bk.c2
    have hend : am' ++ [⟨13, 12, s.all⟩] = bookAm l := by
      rw [← eam]
      unfold bookAm endB
      rw [HEN.out, HSB.out]
    have HE1 := Lib.hid hend
    have HE2 := Lib.hid (show am'.length + 1 = (bookAm l).length by rw [← hend, List.length_append]; rfl)
    obtain ⟨g', c', w', hap, hz2, hfz2, hrw, hnb⟩ := NB2.app ⟨13, 12, s.all⟩ hal
    have HNB := Lib.hid hnb
    clear hnb hrw NB2 eam hend
    go_upto_region 29 with ((with_reducible refine gate_builtin (b := .append) (xs := #[.tmp 130, .tmp 135]) rfl ?_); at_builtin; refine append_run rfl (.tmp 130) (.tmp 135) 92 rfl _ _ _ w' rfl rfl hap ?_)
    go_wp2
    go_ret
    have hnb := HNB.out
    rw [HE1.out] at hnb
    exact ⟨B, bO + 1, g', c', rfl, (by rw [← HE2.out]; exact hnb.bk), hnb.le, (by have := hnb.lt; omega), hnb.g⟩
end Go.Proofs.Ytcgdbjojjpoegaa.P

namespace Go.Proofs.Ytcgdbjojjpoegaa.P
open Go.RowKit Go.Shelf Go.Proofs.YtcgdbjojjpoegaaW.PrintWords Go.Proofs.YtcgdbjojjpoegaaW.PrintLast Go.Proofs.YtcgdbjojjpoegaaW.PrintMore
set_option linter.unusedVariables false
set_option linter.unusedSimpArgs false

def lays58_ren : Ren where
  f := fun x => match x with | 5 => 58 | 8 => 85 | 7 => 84 | 19 => 102 | 20 => 103 | 10 => 93 | 11 => 94 | 12 => 95 | 13 => 96 | 14 => 97 | 15 => 98 | 16 => 99 | 17 => 100 | 18 => 101 | 30 => 105 | 31 => 106 | 32 => 107 | 33 => 108 | 34 => 109 | 35 => 110 | 40 => 112 | n => n
  t := fun x => match x with | 23 => 48 | 25 => 2 | 3 => 3 | 32 => 113 | 22 => 48 | 0 => 0 | 44 => 133 | 46 => 135 | 4 => 4 | 36 => 126 | 35 => 125 | 41 => 130 | 5 => 5 | 9 => 9 | 53 => 141 | 57 => 145 | 63 => 147 | 64 => 148 | n => n
  g := fun x => x
theorem lays58 : SlLaysM.n5 Try.prog lays58_ren where
  mixed := rfl
  f5 := ⟨ "slices.Sort[[]int64,int64]", (by decide), Try.func58.trans rfl⟩
  f7 := ⟨ "slices.pdqsortOrdered[int64]", (by decide), Try.func84.trans rfl⟩
  f8 := Try.func85.trans rfl
  f10 := ⟨ "slices.insertionSortOrdered[int64]", (by decide), Try.func93.trans rfl⟩
  f11 := ⟨ "slices.heapSortOrdered[int64]", (by decide), Try.func94.trans rfl⟩
  f12 := ⟨ "slices.breakPatternsOrdered[int64]", (by decide), Try.func95.trans rfl⟩
  f13 := ⟨ "slices.choosePivotOrdered[int64]", (by decide), Try.func96.trans rfl⟩
  f14 := ⟨ "slices.reverseRangeOrdered[int64]", (by decide), Try.func97.trans rfl⟩
  f15 := ⟨ "slices.partialInsertionSortOrdered[int64]", (by decide), Try.func98.trans rfl⟩
  f16 := ⟨ "cmp.Less[int64]", (by decide), Try.func99.trans rfl⟩
  f17 := ⟨ "slices.partitionEqualOrdered[int64]", (by decide), Try.func100.trans rfl⟩
  f18 := ⟨ "slices.partitionOrdered[int64]", (by decide), Try.func101.trans rfl⟩
  f19 := Try.func102.trans rfl
  f20 := Try.func103.trans rfl
  f30 := ⟨ "slices.siftDownOrdered[int64]", (by decide), Try.func105.trans rfl⟩
  f31 := Try.func106.trans rfl
  f32 := Try.func107.trans rfl
  f33 := ⟨ "slices.medianAdjacentOrdered[int64]", (by decide), Try.func108.trans rfl⟩
  f34 := ⟨ "slices.medianOrdered[int64]", (by decide), Try.func109.trans rfl⟩
  f35 := ⟨ "cmp.isNaN[int64]", (by decide), Try.func110.trans rfl⟩
  f40 := ⟨ "slices.order2Ordered[int64]", (by decide), Try.func112.trans rfl⟩
  t0 := Try.underlying0
  a0 := Try.isAgg0
  z0 := Try.sizeOf0
  v0 := Try.zeroValue0
  t3 := Try.underlying3
  a3 := Try.isAgg3
  z3 := Try.sizeOf3
  v3 := Try.zeroValue3
  t4 := Try.underlying4
  a4 := Try.isAgg4
  z4 := Try.sizeOf4
  v4 := Try.zeroValue4
  t5 := Try.underlying5
  a5 := Try.isAgg5
  z5 := Try.sizeOf5
  v5 := Try.zeroValue5
  t9 := Try.underlying9
  a9 := Try.isAgg9
  z9 := Try.sizeOf9
  v9 := Try.zeroValue9
  t22 := Try.underlying48
  a22 := Try.isAgg48
  z22 := Try.sizeOf48
  v22 := Try.zeroValue48
  t23 := Try.underlying48
  a23 := Try.isAgg48
  z23 := Try.sizeOf48
  v23 := Try.zeroValue48
  t25 := Try.underlying2
  a25 := Try.isAgg2
  z25 := Try.sizeOf2
  v25 := Try.zeroValue2
  t32 := Try.underlying113
  a32 := Try.isAgg113
  z32 := Try.sizeOf113
  v32 := Try.zeroValue113
  t35 := Try.underlying125
  a35 := Try.isAgg125
  z35 := Try.sizeOf125
  v35 := Try.zeroValue125
  t36 := Try.underlying126
  a36 := Try.isAgg126
  z36 := Try.sizeOf126
  v36 := Try.zeroValue126
  t41 := Try.underlying130
  a41 := Try.isAgg130
  z41 := Try.sizeOf130
  v41 := Try.zeroValue130
  t44 := Try.underlying133
  a44 := Try.isAgg133
  z44 := Try.sizeOf133
  v44 := Try.zeroValue133
  t46 := Try.underlying135
  a46 := Try.isAgg135
  z46 := Try.sizeOf135
  v46 := Try.zeroValue135
  t53 := Try.underlying141
  a53 := Try.isAgg141
  z53 := Try.sizeOf141
  v53 := Try.zeroValue141
  t57 := Try.underlying145
  a57 := Try.isAgg145
  z57 := Try.sizeOf145
  v57 := Try.zeroValue145
  t63 := Try.underlying147
  a63 := Try.isAgg147
  z63 := Try.sizeOf147
  v63 := Try.zeroValue147
  t64 := Try.underlying148
  a64 := Try.isAgg148
  z64 := Try.sizeOf148
  v64 := Try.zeroValue148
def lays83_ren : Ren where
  f := fun x => match x with | 43 => 83 | n => n
  t := fun x => match x with | 22 => 48 | 23 => 2 | 3 => 3 | 4 => 4 | 0 => 0 | n => n
  g := fun x => x
set_option maxRecDepth 100000 in
theorem lays83 : SlLaysN.n43 Try.prog lays83_ren where
  mixed := rfl
  f43 := ⟨ "slices.Compact[[]int64,int64]", (by decide), Try.func83.trans rfl⟩
  t0 := Try.underlying0
  a0 := Try.isAgg0
  z0 := Try.sizeOf0
  v0 := Try.zeroValue0
  t3 := Try.underlying3
  a3 := Try.isAgg3
  z3 := Try.sizeOf3
  v3 := Try.zeroValue3
  t4 := Try.underlying4
  a4 := Try.isAgg4
  z4 := Try.sizeOf4
  v4 := Try.zeroValue4
  t22 := Try.underlying48
  a22 := Try.isAgg48
  z22 := Try.sizeOf48
  v22 := Try.zeroValue48
  t23 := Try.underlying2
  a23 := Try.isAgg2
  z23 := Try.sizeOf2
  v23 := Try.zeroValue2
  i23 := rfl
set_option maxRecDepth 100000 in
/-- slices.Sort at a row of one's own. -/
theorem sort58 (blk cap : Nat) (zs : List Int) (w : World) (hr : RowC w blk 2 cap zs) (hn : 0 < zs.length) (hsz : zs.length < 1000000) :
    Calls Try.prog 58 #[.slice (some ⟨blk, 0, none⟩) zs.length cap] w fun e w' => e = .returned (.tuple #[]) ∧ RowC w' blk 2 cap (zs.mergeSort fun x y => decide (x ≤ y)) ∧ w.grownBy w' (some blk) := by
  have hlt := hr.lt
  have ho := hr.own (base := blk) (Nat.le_refl _)
  obtain ⟨h1, ⟨h2, h3⟩ | ⟨g, cap', cur, hv, hg, hk, hle, hcm, hs, ht⟩⟩ := ho
  · omega
  injection hv with hv1 hv2 hv3
  injection hv1 with hv1
  injection hv1 with hv1
  subst hv1 hv3
  have hml : (zs.mergeSort fun x y => decide (x ≤ y)).length = zs.length := List.length_mergeSort _
  refine (AnyM.slices_Sort_int lays58 blk 0 cap zs w (holds_of_blockI hk (by rw [Nat.mul_one] at ht; exact ht)) hlt (by omega)).mono ?_
  rintro e w' ⟨rfl, n, os, rfl⟩
  refine ⟨rfl, ?_, grownBy_sortedI _⟩
  have h := ownsRow_sortedI (base := blk) (n := n) (os := os) (ss := zs) hml (Nat.le_refl _) hk hr.le hcm hs
  obtain ⟨b', cap2, e, _, _, h4⟩ := RowC.of_own h hn
  injection e with e1 e2 e3
  injection e1 with e1
  injection e1 with e1
  subst e1 e3
  exact h4
theorem grow_none (w : World) : w = Go.Sort.grow w #[] := by
  cases w
  simp [Go.Sort.grow]
theorem compact_len (zs : List Int) : (Lib.compact zs).length ≤ zs.length := by
  unfold Lib.compact Lib.compactUpTo
  rw [List.length_map]
  exact Nat.le_trans (List.length_filter_le _ _) (by simp)
set_option maxRecDepth 100000 in
/-- slices.Compact at a row of one's own. -/
theorem compact83 (blk cap : Nat) (zs : List Int) (w : World) (hr : RowC w blk 2 cap zs) (hn : 0 < zs.length) (hsz : zs.length < 1000000) :
    Calls Try.prog 83 #[.slice (some ⟨blk, 0, none⟩) zs.length cap] w fun e w' => e = .returned (.slice (some ⟨blk, 0, none⟩) (Lib.compact zs).length cap) ∧ RowC w' blk 2 cap (Lib.compact zs) ∧ w.grownBy w' (some blk) := by
  have hlt := hr.lt
  have ho := hr.own (base := blk) (Nat.le_refl _)
  obtain ⟨h1, ⟨h2, h3⟩ | ⟨g, cap', cur, hv, hg, hk, hle, hcm, hs, ht⟩⟩ := ho
  · omega
  injection hv with hv1 hv2 hv3
  injection hv1 with hv1
  injection hv1 with hv1
  subst hv1 hv3
  have hcl := compact_len zs
  have hml : (Lib.compact zs ++ List.replicate (zs.length - (Lib.compact zs).length) 0).length = zs.length := by
    rw [List.length_append, List.length_replicate]
    omega
  refine (AnyG.slices_Compact_int lays83 blk 0 cap zs w (holds_of_blockI hk (by rw [Nat.mul_one] at ht; exact ht)) (by omega) hr.le).mono ?_
  rintro e w' ⟨rfl, n, rfl⟩
  have eg : Go.Sort.putRow (Value.int .i64) (Sort.ahead w n) blk 0 (Lib.compact zs ++ List.replicate (zs.length - (Lib.compact zs).length) 0).toArray = Go.Sort.grow (Go.Sort.putRow (Value.int .i64) (Sort.ahead w n) blk 0 (Lib.compact zs ++ List.replicate (zs.length - (Lib.compact zs).length) 0).toArray) #[] := grow_none _
  rw [eg]
  refine ⟨rfl, ?_, grownBy_sortedI _⟩
  have h := ownsRow_sortedI (base := blk) (n := n) (os := #[]) (ss := zs) hml (Nat.le_refl _) hk hr.le hcm hs
  obtain ⟨b', cap2, e, _, _, h4⟩ := RowC.of_own h hn
  injection e with e1 e2 e3
  injection e1 with e1
  injection e1 with e1
  subst e1 e3
  have := h4.take (Lib.compact zs).length
  rw [List.take_left] at this
  exact this
/-- append of one number to a row of the call's own. -/
theorem app2 {W : World} {b cap : Nat} {xs : List Int} (hr : RowC W b 2 cap xs) (hn : 0 < xs.length) (hl : xs.length ≤ 1000) (base : Nat) (hb : base ≤ b) (x : Int) (g : Nat) (hg : W.heap[g]? = some (.cells #[.int .i64 x] 2 (0, 0))) :
    ∃ b' cap' w', (∀ ty, (Builtin.append_ #[48, 48] ty #[.slice (some ⟨b, 0, none⟩) xs.length cap, .slice (some ⟨g, 0, none⟩) 1 1]).run Try.prog W = .ok (.slice (some ⟨b', 0, none⟩) (xs.length + 1) cap') w') ∧ RowC w' b' 2 cap' (xs ++ [x]) ∧ W.grownBy w' (some b) ∧ base ≤ b' ∧ (b' = b ∨ b' = W.heap.size) := by
  obtain ⟨ti, hi, hz, hs, hby⟩ := info_parts info2
  have hmx : maxLen = 9223372036854775807 := rfl
  obtain ⟨v', w', h1, h2, h3, h4, h5⟩ := run_append_own_at (P := Try.prog) (w := W) base 48 48 2 ti (.int .i64 0) 1 8 Try.underlying48 hi hz hs hby rfl (by decide) _ xs.length _ (hr.own hb) ⟨g, 0, none⟩ 1 1 [.int .i64 x] rfl (fun j u hu => by
    rw [Addr.add_lit, Nat.zero_add, blk_cell hg]
    rw [← Array.getElem?_toList]
    exact hu) (fun u hu => by simp at hu; subst hu; rfl) (by omega) (by omega) (by have := hr.lt; omega)
  have h2' : w'.ownsRow base 2 1 v' (xs.length + 1) ((xs ++ [x]).map (Value.int .i64)) := by
    rw [List.map_append]
    exact h2
  obtain ⟨b', cap', rfl, hb', _, hrow⟩ := RowC.of_own h2' (by omega)
  exact ⟨b', cap', w', fun ty => h1, hrow, h3, hb', (by simpa [Value.ownBlock] using h5)⟩
end Go.Proofs.Ytcgdbjojjpoegaa.P

namespace Go.Proofs.Ytcgdbjojjpoegaa.P
open Go.RowKit Go.Proofs.YtcgdbjojjpoegaaW.PrintWords Go.Proofs.YtcgdbjojjpoegaaW.PrintLast Go.Proofs.YtcgdbjojjpoegaaW.PrintMore
set_option linter.unusedVariables false
set_option linter.unusedSimpArgs false

/-- A list of minutes in a row of the call's own. -/
structure CS (w W : World) (g : Nat) (lo hi : Int) (b cap : Nat) (xs : List Int) : Prop where
  row : RowC W b 2 cap xs
  bx : W.heap[g]? = some (.cells #[.int .i64 lo, .int .i64 hi] 24 (0, 0))
  le : w.heap.size ≤ b
  ne : g ≠ b
  g : Below w.heap.size w W
section
variable {w W W' : World} {g : Nat} {lo hi : Int} {b cap : Nat} {xs : List Int}
theorem CS.below (h : CS w W g lo hi b cap xs) (hb : Below W.heap.size W W') : CS w W' g lo hi b cap xs :=
  ⟨h.row.below hb h.row.lt, blk_below h.bx hb, h.le, h.ne, below_then h.g h.g.size hb⟩
theorem CS.app (h : CS w W g lo hi b cap xs) (hn : 0 < xs.length) (hl : xs.length ≤ 1000) (x : Int) (hg : g = w.heap.size) :
    ∃ b' cap' w', (∀ ty, (Builtin.append_ #[48, 48] ty #[.slice (some ⟨b, 0, none⟩) xs.length cap, .slice (some ⟨W.heap.size, 0, none⟩) 1 1]).run Try.prog (W.alloc (.cells #[.int .i64 x] 2)) = .ok (.slice (some ⟨b', 0, none⟩) (xs.length + 1) cap') w') ∧ CS w w' g lo hi b' cap' (xs ++ [x]) ∧ ∀ k o, k ≠ b → W.heap[k]? = some o → w'.heap[k]? = some o ∧ k ≠ b' := by
  have h1 := h.below (below_alloc (Below.refl W.heap.size W) (.cells #[.int .i64 x] 2))
  have hbase : w.heap.size + 1 ≤ b := by have := h.le; have := h.ne; omega
  obtain ⟨b', cap', w', hap, hrow, hgr, hb', hbb⟩ := app2 h1.row hn hl (w.heap.size + 1) hbase x W.heap.size (blk_new _ _)
  exact ⟨b', cap', w', hap, ⟨hrow, blk_grown h1.bx hgr (by simp [h.ne]), (by omega), (by omega), below_grown h1.g hgr (fun r hr => by simp at hr; have := h.le; omega)⟩, fun k o hk ho => ⟨blk_grown (blk_alloc ho _) hgr (by simp [hk]), (by have := blk_lt ho; simp only [World.size_alloc] at hbb; omega)⟩⟩
end
/-- minutes at which the fair price can change, of one price -/
def minsP (lo hi : Int) (p : S54) : List Int := [wrap64 (p.f0 - hi), wrap64 (p.f0 - lo)].filter fun m => withinB 1 2000 [m]
def changesC (lo hi : Int) (l : List S54) : List Int := 0 :: (l.drop 1).flatMap (minsP lo hi)
def changesL (lo hi : Int) (l : List S54) : List Int := Lib.compact ((changesC lo hi l).mergeSort fun x y => decide (x ≤ y))
theorem minsP_len (lo hi : Int) (p : S54) : (minsP lo hi p).length ≤ 2 := by
  unfold minsP
  exact Nat.le_trans (List.length_filter_le _ _) (by simp)
theorem flat_len (lo hi : Int) : ∀ l : List S54, (l.flatMap (minsP lo hi)).length ≤ l.length * 2
  | [] => by simp
  | p :: l => by
    have h1 := minsP_len lo hi p
    have h2 := flat_len lo hi l
    rw [List.flatMap_cons, List.length_append, List.length_cons]
    omega
/-- what of the two minutes is taken behind the first q ones -/
def minsF (ms : List Int) : List Int := ms.filter fun m => withinB 1 2000 [m]

set_option maxHeartbeats 4000000 in
set_option maxRecDepth 100000 in
theorem changes_calls (A : Option Addr) (c : Nat) (l : List S54) (lo hi : Int) (w : World) (hr : Kd.C k54 w A l.length l) (hc : l.length ≤ c) (hp : 0 < l.length) (hl : l.length ≤ 100) :
    Calls Try.prog 57 #[.slice A l.length c, .agg #[.int .i64 lo, .int .i64 hi]] w fun e w' => ∃ b cap : Nat, e = .returned (.slice (some ⟨b, 0, none⟩) (changesL lo hi l).length cap) ∧ RowC w' b 2 cap (changesL lo hi l) ∧ w.heap.size ≤ b ∧ Below w.heap.size w w' := by
  obtain ⟨ad, eA, _, _⟩ := at_T54 hr 0 (by omega) (by omega)
  cases eA
  obtain ⟨ad2, hsel, hC2⟩ := cut1_54 hr hp hc
  have hlen : (l.drop 1).length = l.length - 1 := List.length_drop
  have hcl1 : 1 ≤ l.length := hp
  have hcl2 : 1 ≤ c := by omega
  have hcl3 : (1 : Int) ≤ (l.length : Int) := by omega
  rw [← hlen] at hC2
  have HC2 := Lib.hid hC2
  have HLEN := Lib.hid hlen
  have HLL := Lib.hid (show l.length ≤ 100 ∧ l.length ≤ c from ⟨hl, hc⟩)
  have HST := Lib.hid (show changesC lo hi l = [0] ++ (l.drop 1).flatMap (minsP lo hi) from rfl)
  have HB1 := boxes2 w (.cells #[.int .i64 lo, .int .i64 hi] 24) (.cells #[.int .i64 0] 2)
  have B0 := blk_alloc (blk_new w (.cells #[.int .i64 lo, .int .i64 hi] 24)) (.cells #[.int .i64 0] 2)
  have R0 := row_lit (w.alloc (.cells #[.int .i64 lo, .int .i64 hi] 24)) [0] 2 #[.int .i64 0] rfl (by simp)
  simp only [World.size_alloc] at R0
  have CS0 := Lib.hid (show CS w ((w.alloc (.cells #[.int .i64 lo, .int .i64 hi] 24)).alloc (.cells #[.int .i64 0] 2)) w.heap.size lo hi (w.heap.size + 1) 1 [0] from ⟨R0, B0, (by omega), (by omega), HB1⟩)
  clear hr hC2 hlen hl hc HB1 B0 R0 hp
  go_enter Try.func57, Try.ntmps57
  go_upto_region 2 with (fail)
  generalize (w.alloc (.cells #[.int .i64 lo, .int .i64 hi] 24)).alloc (.cells #[.int .i64 0] 2) = W0 at *
  generalize eb : w.heap.size + 1 = b0 at *
  clear eb
  generalize el : l.drop 1 = l2 at *
  have hl1 : l.length - 1 = l2.length := by rw [← HLEN.out]
  have hl1' : (l.length : Int) - 1 = (l2.length : Int) := by omega
  have HL2 := Lib.hid hl1
  rcases hsel with ⟨e1, e2⟩ | ⟨e1, e2⟩
  · subst e1
    subst e2
    clear hcl2
    go_wp2
    go_loopg [5, 14] l2.length (fun kq v5 v14 w' => ∃ (i b cap : Nat) (xs : List Int), v14 = .int .i64 i ∧ v5 = .slice (some ⟨b, 0, none⟩) xs.length cap ∧ Aside0 (i + kq = l2.length) ∧ Aside0 (changesC lo hi l = xs ++ (l2.drop i).flatMap (minsP lo hi)) ∧ Aside0 (0 < xs.length ∧ xs.length ≤ 1 + 2 * i) ∧ Aside0 (CS w w' w.heap.size lo hi b cap xs))
    case atStart => exact ⟨0, b0, 1, [0], rfl, rfl, ⟨(by omega)⟩, ⟨HST.out⟩, ⟨(by simp)⟩, ⟨CS0.out⟩⟩
    clear CS0 HST
    obtain ⟨i, b, cap, xs, rfl, rfl, HI, HS, HN, HCS⟩ := hrel
    cases gk with
    | zero => as_aux_lemma =>
      have hi' : i = l2.length := by have := HI.out; omega
      have hlt : decide (i < l2.length) = false := by simp [hi']
      have hlt2 : decide ((i : Int) < (l2.length : Int)) = false := decide_eq_false (by omega)
      have HX := Lib.hid (show changesC lo hi l = xs by
        have := HS.out
        rw [show l2.drop i = [] from List.drop_of_length_le (by omega), List.flatMap_nil, List.append_nil] at this
        exact this)
      have hxl : xs.length < 1000000 := by
        have := HN.out
        have := HLL.out
        have := HL2.out
        omega
      have H58 := Lib.hid (sort58 b cap xs wr HCS.out.row HN.out.1 hxl)
      clear hi' HS
      go_wp2_with fail
      refine (H58.out).mono ?_
      rintro e W1 ⟨rfl, hrow, hgr⟩
      have hsl : (xs.mergeSort fun x y => decide (x ≤ y)).length = xs.length := List.length_mergeSort _
      have H83 := compact83 b cap (xs.mergeSort fun x y => decide (x ≤ y)) W1 hrow (by rw [hsl]; exact HN.out.1) (by rw [hsl]; exact hxl)
      rw [hsl] at H83
      replace H83 := Lib.hid H83
      have HG := Lib.hid hgr
      clear hsl hrow hgr
      go_wp2_with fail
      refine (H83.out).mono ?_
      rintro e W2 ⟨rfl, hrow, hgr⟩
      have HR2 := Lib.hid hrow
      have HG2 := Lib.hid hgr
      have EL := Lib.hid (show changesL lo hi l = Lib.compact (xs.mergeSort fun x y => decide (x ≤ y)) by unfold changesL; rw [HX.out])
      clear hrow hgr
      generalize Lib.compact (xs.mergeSort fun x y => decide (x ≤ y)) = ys at *
      go_wp2
      go_ret
      refine ⟨b, cap, (by rw [EL.out]; rfl), ?_, HCS.out.le, ?_⟩
      · rw [EL.out]
        exact HR2.out
      exact below_grown (below_grown HCS.out.g HG.out (fun r hr => by simp at hr; have := HCS.out.le; omega)) HG2.out (fun r hr => by simp at hr; have := HCS.out.le; omega)
    | succ k1 => as_aux_lemma =>
      have hi' : i < l2.length := by have := HI.out; omega
      have hlt : decide (i < l2.length) = true := by simp [hi']
      have hlt2 : decide ((i : Int) < (l2.length : Int)) = true := decide_eq_true (by omega)
      have hC := Kd.C_below HC2.out HCS.out.g
      obtain ⟨ad3, e0, hc0, hc1⟩ := at_T54 hC (i : Int) (by omega) (by omega)
      cases e0
      rw [Int.toNat_natCast, rd_T54_nat l2 i hi'] at hc0 hc1
      have hblk := World.block_lt_of_cell? wr _ hc0
      have hblk3 : ¬ (ad2.add (i * 2)).block = wr.heap.size := by omega
      have HS1 := Lib.hid (show changesC lo hi l = xs ++ ((minsF [wrap64 (l2[i].f0 - hi), wrap64 (l2[i].f0 - lo)]) ++ (l2.drop (i + 1)).flatMap (minsP lo hi)) by
        have := HS.out
        rw [List.drop_eq_getElem_cons hi', List.flatMap_cons] at this
        exact this)
      have hi100 : (i : Int) ≤ 100 := by have := HLL.out; have := HL2.out; omega
      clear hC HS
      generalize l2[i] = y at *
      go_upto_region 5 with (fail)
      have B7 := blk_new wr (.cells #[.int .i64 y.f0, .int .i64 y.f1] 54)
      have HB7 := below_alloc (Below.refl wr.heap.size wr) (.cells #[.int .i64 y.f0, .int .i64 y.f1] 54)
      have HCS1 := Lib.hid (HCS.out.below HB7)
      clear hc0 hc1 hblk hblk3 HB7 HCS
      generalize wr.alloc (.cells #[.int .i64 y.f0, .int .i64 y.f1] 54) = W1 at *
      generalize wr.heap.size = g7 at *
      have e0 : W1.cell? ⟨g7, 0, none⟩ = some (.int .i64 y.f0) := (blk_cell B7 0).trans rfl
      have e1 : W1.cell? ⟨w.heap.size, 0, none⟩ = some (.int .i64 lo) := (blk_cell HCS1.out.bx 0).trans rfl
      have e2 : W1.cell? ⟨w.heap.size, 1, none⟩ = some (.int .i64 hi) := (blk_cell HCS1.out.bx 1).trans rfl
      obtain ⟨m0, em0⟩ : ∃ m, wrap64 (y.f0 - hi) = m := ⟨_, rfl⟩
      obtain ⟨m1, em1⟩ : ∃ m, wrap64 (y.f0 - lo) = m := ⟨_, rfl⟩
      rw [em0, em1] at HS1
      go_wp2
      have BL := blk_new W1 (.cells #[.int .i64 m0, .int .i64 m1] 2)
      have HBL := below_alloc (Below.refl W1.heap.size W1) (.cells #[.int .i64 m0, .int .i64 m1] 2)
      have HCS2 := Lib.hid (HCS1.out.below HBL)
      have HBL2 := Lib.hid BL
      have hgb : W1.heap.size ≠ b := by have := HCS1.out.row.lt; omega
      clear e0 e1 e2 B7 HBL HCS1 BL em0 em1
      generalize W1.alloc (.cells #[.int .i64 m0, .int .i64 m1] 2) = W2 at *
      generalize W1.heap.size = gl at *
      obtain ⟨ms, ems⟩ : ∃ ms : List Int, [m0, m1] = ms := ⟨_, rfl⟩
      have hcells : ∀ (W : World), W.heap[gl]? = some (.cells #[.int .i64 m0, .int .i64 m1] 2 (0, 0)) → ∀ q (h : q < 2), ∃ (hq : q < ms.length), W.cell? ⟨gl, q, none⟩ = some (.int .i64 ms[q]) := fun W hW q h => by
        subst ems
        match q with
        | 0 => exact ⟨(by simp), (blk_cell hW 0).trans rfl⟩
        | 1 => exact ⟨(by simp), (blk_cell hW 1).trans rfl⟩
        | q + 2 => omega
      have hml : ms.length = 2 := by rw [← ems]; rfl
      rw [ems] at HS1
      have HML := Lib.hid hml
      have HCL := Lib.hid hcells
      have HNE := Lib.hid hgb
      clear ems hml hcells hgb
      go_loopg [5, 30] 2 (fun kq v5 v30 w' => ∃ (q b cap : Nat) (xs' : List Int), v30 = .int .i64 q ∧ v5 = .slice (some ⟨b, 0, none⟩) xs'.length cap ∧ Aside0 (q + kq = 2) ∧ Aside0 (changesC lo hi l = xs' ++ (minsF (ms.drop q) ++ (l2.drop (i + 1)).flatMap (minsP lo hi))) ∧ Aside0 (0 < xs'.length ∧ xs'.length ≤ 1 + 2 * i + q) ∧ Aside0 (CS w w' w.heap.size lo hi b cap xs') ∧ Aside0 (w'.heap[gl]? = some (.cells #[.int .i64 m0, .int .i64 m1] 2 (0, 0)) ∧ gl ≠ b))
      case atStart => exact ⟨0, b, cap, xs, rfl, rfl, ⟨(by omega)⟩, ⟨HS1.out⟩, ⟨(by have := HN.out; omega)⟩, ⟨HCS2.out⟩, ⟨HBL2.out, HNE.out⟩⟩
      clear HCS2 HN HS1 HBL2 HNE b cap xs
      obtain ⟨q, b, cap, xs, rfl, rfl, HQ, HS, HN, HCS, HBW⟩ := hrel
      cases gk with
      | zero => as_aux_lemma =>
        have hq : q = 2 := by have := HQ.out; omega
        have hlt3 : decide (q < 2) = false := by simp [hq]
        have hlt4 : decide ((q : Int) < 2) = false := decide_eq_false (by omega)
        have HS2 := Lib.hid (show changesC lo hi l = xs ++ (l2.drop (i + 1)).flatMap (minsP lo hi) by
          have := HS.out
          rw [show ms.drop q = [] from List.drop_of_length_le (by rw [HML.out]; omega)] at this
          exact this)
        have HN2 := Lib.hid (show 0 < xs.length ∧ xs.length ≤ 1 + 2 * (i + 1) by have := HN.out; omega)
        clear hq
        go_wp2
        go_roundg k1
        case rel => exact ⟨i + 1, b, cap, xs, (by go_num), rfl, ⟨b21_⟩, ⟨HS2.out⟩, ⟨HN2.out⟩, ⟨HCS.out⟩⟩
        case measure => omega
      | succ k2 => as_aux_lemma =>
        have hq : q < 2 := by have := HQ.out; omega
        have hlt3 : decide (q < 2) = true := by simp [hq]
        have hlt4 : decide ((q : Int) < 2) = true := decide_eq_true (by omega)
        have hq4 : (q : Int) < 2 := by omega
        obtain ⟨hqm, hcm⟩ := HCL.out wr HBW.out.1 q hq
        have HS1 := Lib.hid (show changesC lo hi l = xs ++ ((if withinB 1 2000 [ms[q]] = true then ms[q] :: minsF (ms.drop (q + 1)) else minsF (ms.drop (q + 1))) ++ (l2.drop (i + 1)).flatMap (minsP lo hi)) by
          have := HS.out
          rw [List.drop_eq_getElem_cons hqm] at this
          unfold minsF at this ⊢
          rw [List.filter_cons] at this
          exact this)
        clear HS
        generalize ms[q] = m at *
        have hxl : xs.length ≤ 1000 := by have := HN.out; omega
        cases hw : withinB 1 2000 [m] with
        | false =>
          have HS2 := Lib.hid (show changesC lo hi l = xs ++ (minsF (ms.drop (q + 1)) ++ (l2.drop (i + 1)).flatMap (minsP lo hi)) by
            have := HS1.out
            rw [hw] at this
            exact this)
          have HW := Lib.hid hw
          clear hw
          go_wp2_with fail
          refine (within_one 1 2000 m _ _ _ ?_).mono ?_
          focus (go_simp; done)
          rintro e W3 ⟨rfl, hb3⟩
          rw [HW.out]
          have hb4 := alloc_step hb3
          have HCS3 := Lib.hid (HCS.out.below hb4)
          have HBW3 := Lib.hid (blk_below HBW.out.1 hb4)
          clear hb3 hb4
          go_wp2
          go_roundg k2
          case rel => exact ⟨q + 1, b, cap, xs, (by go_num), rfl, ⟨(by have := HQ.out; omega)⟩, ⟨HS2.out⟩, ⟨(by have := HN.out; omega)⟩, ⟨HCS3.out⟩, ⟨HBW3.out, HBW.out.2⟩⟩
          case measure => omega
        | true => ?_
        have HS2 := Lib.hid (show changesC lo hi l = (xs ++ [m]) ++ (minsF (ms.drop (q + 1)) ++ (l2.drop (i + 1)).flatMap (minsP lo hi)) by
          have := HS1.out
          rw [hw] at this
          rw [this, List.append_assoc]
          rfl)
        have HW := Lib.hid hw
        clear hw
        go_wp2_with fail
        refine (within_one 1 2000 m _ _ _ ?_).mono ?_
        focus (go_simp; done)
        rintro e W3 ⟨rfl, hb3⟩
        rw [HW.out]
        have hb4 := alloc_step hb3
        have HCS3 := Lib.hid (HCS.out.below hb4)
        have HBW3 := Lib.hid (blk_below HBW.out.1 hb4)
        clear hb3 hb4
        obtain ⟨b', cap', w', hap, hcs, hkeep⟩ := HCS3.out.app HN.out.1 hxl m rfl
        have HCS4 := Lib.hid hcs
        have HX := Lib.hid (hkeep gl _ HBW.out.2 HBW3.out)
        clear hcs hkeep
        go_wp2_with ((with_reducible refine gate_builtin (b := .append) (xs := #[.tmp 37, .tmp 39]) rfl ?_); at_builtin; refine append_run rfl (.tmp 37) (.tmp 39) 48 rfl _ _ _ w' rfl rfl hap ?_)
        go_roundg k2
        case rel => exact ⟨q + 1, b', cap', xs ++ [m], (by go_num), (by simp), ⟨(by have := HQ.out; omega)⟩, ⟨HS2.out⟩, ⟨(by have := HN.out; simp; omega)⟩, ⟨HCS4.out⟩, ⟨HX.out.1, HX.out.2⟩⟩
        case measure => omega
  clear hcl2
  go_wp2
  go_loopg [5, 14] l2.length (fun kq v5 v14 w' => ∃ (i b cap : Nat) (xs : List Int), v14 = .int .i64 i ∧ v5 = .slice (some ⟨b, 0, none⟩) xs.length cap ∧ Aside0 (i + kq = l2.length) ∧ Aside0 (changesC lo hi l = xs ++ (l2.drop i).flatMap (minsP lo hi)) ∧ Aside0 (0 < xs.length ∧ xs.length ≤ 1 + 2 * i) ∧ Aside0 (CS w w' w.heap.size lo hi b cap xs))
  case atStart => exact ⟨0, b0, 1, [0], rfl, rfl, ⟨(by omega)⟩, ⟨HST.out⟩, ⟨(by simp)⟩, ⟨CS0.out⟩⟩
  clear CS0 HST
  obtain ⟨i, b, cap, xs, rfl, rfl, HI, HS, HN, HCS⟩ := hrel
  cases gk with
  | zero => as_aux_lemma =>
    have hi' : i = l2.length := by have := HI.out; omega
    have hlt : decide (i < l2.length) = false := by simp [hi']
    have hlt2 : decide ((i : Int) < (l2.length : Int)) = false := decide_eq_false (by omega)
    have HX := Lib.hid (show changesC lo hi l = xs by
      have := HS.out
      rw [show l2.drop i = [] from List.drop_of_length_le (by omega), List.flatMap_nil, List.append_nil] at this
      exact this)
    have hxl : xs.length < 1000000 := by
      have := HN.out
      have := HLL.out
      have := HL2.out
      omega
    have H58 := Lib.hid (sort58 b cap xs wr HCS.out.row HN.out.1 hxl)
    clear hi' HS
    go_wp2_with fail
    refine (H58.out).mono ?_
    rintro e W1 ⟨rfl, hrow, hgr⟩
    have hsl : (xs.mergeSort fun x y => decide (x ≤ y)).length = xs.length := List.length_mergeSort _
    have H83 := compact83 b cap (xs.mergeSort fun x y => decide (x ≤ y)) W1 hrow (by rw [hsl]; exact HN.out.1) (by rw [hsl]; exact hxl)
    rw [hsl] at H83
    replace H83 := Lib.hid H83
    have HG := Lib.hid hgr
    clear hsl hrow hgr
    go_wp2_with fail
    refine (H83.out).mono ?_
    rintro e W2 ⟨rfl, hrow, hgr⟩
    have HR2 := Lib.hid hrow
    have HG2 := Lib.hid hgr
    have EL := Lib.hid (show changesL lo hi l = Lib.compact (xs.mergeSort fun x y => decide (x ≤ y)) by unfold changesL; rw [HX.out])
    clear hrow hgr
    generalize Lib.compact (xs.mergeSort fun x y => decide (x ≤ y)) = ys at *
    go_wp2
    go_ret
    refine ⟨b, cap, (by rw [EL.out]; rfl), ?_, HCS.out.le, ?_⟩
    · rw [EL.out]
      exact HR2.out
    exact below_grown (below_grown HCS.out.g HG.out (fun r hr => by simp at hr; have := HCS.out.le; omega)) HG2.out (fun r hr => by simp at hr; have := HCS.out.le; omega)
  | succ k1 => as_aux_lemma =>
    have hi' : i < l2.length := by have := HI.out; omega
    have hlt : decide (i < l2.length) = true := by simp [hi']
    have hlt2 : decide ((i : Int) < (l2.length : Int)) = true := decide_eq_true (by omega)
    have hC := Kd.C_below HC2.out HCS.out.g
    obtain ⟨ad3, e0, hc0, hc1⟩ := at_T54 hC (i : Int) (by omega) (by omega)
    cases e0
    rw [Int.toNat_natCast, rd_T54_nat l2 i hi'] at hc0 hc1
    have hblk := World.block_lt_of_cell? wr _ hc0
    have hblk3 : ¬ (ad2.add (i * 2)).block = wr.heap.size := by omega
    have HS1 := Lib.hid (show changesC lo hi l = xs ++ ((minsF [wrap64 (l2[i].f0 - hi), wrap64 (l2[i].f0 - lo)]) ++ (l2.drop (i + 1)).flatMap (minsP lo hi)) by
      have := HS.out
      rw [List.drop_eq_getElem_cons hi', List.flatMap_cons] at this
      exact this)
    have hi100 : (i : Int) ≤ 100 := by have := HLL.out; have := HL2.out; omega
    clear hC HS
    generalize l2[i] = y at *
    go_upto_region 5 with (fail)
    have B7 := blk_new wr (.cells #[.int .i64 y.f0, .int .i64 y.f1] 54)
    have HB7 := below_alloc (Below.refl wr.heap.size wr) (.cells #[.int .i64 y.f0, .int .i64 y.f1] 54)
    have HCS1 := Lib.hid (HCS.out.below HB7)
    clear hc0 hc1 hblk hblk3 HB7 HCS
    generalize wr.alloc (.cells #[.int .i64 y.f0, .int .i64 y.f1] 54) = W1 at *
    generalize wr.heap.size = g7 at *
    have e0 : W1.cell? ⟨g7, 0, none⟩ = some (.int .i64 y.f0) := (blk_cell B7 0).trans rfl
    have e1 : W1.cell? ⟨w.heap.size, 0, none⟩ = some (.int .i64 lo) := (blk_cell HCS1.out.bx 0).trans rfl
    have e2 : W1.cell? ⟨w.heap.size, 1, none⟩ = some (.int .i64 hi) := (blk_cell HCS1.out.bx 1).trans rfl
    obtain ⟨m0, em0⟩ : ∃ m, wrap64 (y.f0 - hi) = m := ⟨_, rfl⟩
    obtain ⟨m1, em1⟩ : ∃ m, wrap64 (y.f0 - lo) = m := ⟨_, rfl⟩
    rw [em0, em1] at HS1
    go_wp2
    have BL := blk_new W1 (.cells #[.int .i64 m0, .int .i64 m1] 2)
    have HBL := below_alloc (Below.refl W1.heap.size W1) (.cells #[.int .i64 m0, .int .i64 m1] 2)
    have HCS2 := Lib.hid (HCS1.out.below HBL)
    have HBL2 := Lib.hid BL
    have hgb : W1.heap.size ≠ b := by have := HCS1.out.row.lt; omega
    clear e0 e1 e2 B7 HBL HCS1 BL em0 em1
    generalize W1.alloc (.cells #[.int .i64 m0, .int .i64 m1] 2) = W2 at *
    generalize W1.heap.size = gl at *
    obtain ⟨ms, ems⟩ : ∃ ms : List Int, [m0, m1] = ms := ⟨_, rfl⟩
    have hcells : ∀ (W : World), W.heap[gl]? = some (.cells #[.int .i64 m0, .int .i64 m1] 2 (0, 0)) → ∀ q (h : q < 2), ∃ (hq : q < ms.length), W.cell? ⟨gl, q, none⟩ = some (.int .i64 ms[q]) := fun W hW q h => by
      subst ems
      match q with
      | 0 => exact ⟨(by simp), (blk_cell hW 0).trans rfl⟩
      | 1 => exact ⟨(by simp), (blk_cell hW 1).trans rfl⟩
      | q + 2 => omega
    have hml : ms.length = 2 := by rw [← ems]; rfl
    rw [ems] at HS1
    have HML := Lib.hid hml
    have HCL := Lib.hid hcells
    have HNE := Lib.hid hgb
    clear ems hml hcells hgb
    go_loopg [5, 30] 2 (fun kq v5 v30 w' => ∃ (q b cap : Nat) (xs' : List Int), v30 = .int .i64 q ∧ v5 = .slice (some ⟨b, 0, none⟩) xs'.length cap ∧ Aside0 (q + kq = 2) ∧ Aside0 (changesC lo hi l = xs' ++ (minsF (ms.drop q) ++ (l2.drop (i + 1)).flatMap (minsP lo hi))) ∧ Aside0 (0 < xs'.length ∧ xs'.length ≤ 1 + 2 * i + q) ∧ Aside0 (CS w w' w.heap.size lo hi b cap xs') ∧ Aside0 (w'.heap[gl]? = some (.cells #[.int .i64 m0, .int .i64 m1] 2 (0, 0)) ∧ gl ≠ b))
    case atStart => exact ⟨0, b, cap, xs, rfl, rfl, ⟨(by omega)⟩, ⟨HS1.out⟩, ⟨(by have := HN.out; omega)⟩, ⟨HCS2.out⟩, ⟨HBL2.out, HNE.out⟩⟩
    clear HCS2 HN HS1 HBL2 HNE b cap xs
    obtain ⟨q, b, cap, xs, rfl, rfl, HQ, HS, HN, HCS, HBW⟩ := hrel
    cases gk with
    | zero => as_aux_lemma =>
      have hq : q = 2 := by have := HQ.out; omega
      have hlt3 : decide (q < 2) = false := by simp [hq]
      have hlt4 : decide ((q : Int) < 2) = false := decide_eq_false (by omega)
      have HS2 := Lib.hid (show changesC lo hi l = xs ++ (l2.drop (i + 1)).flatMap (minsP lo hi) by
        have := HS.out
        rw [show ms.drop q = [] from List.drop_of_length_le (by rw [HML.out]; omega)] at this
        exact this)
      have HN2 := Lib.hid (show 0 < xs.length ∧ xs.length ≤ 1 + 2 * (i + 1) by have := HN.out; omega)
      clear hq
      go_wp2
      go_roundg k1
      case rel => exact ⟨i + 1, b, cap, xs, (by go_num), rfl, ⟨b21_⟩, ⟨HS2.out⟩, ⟨HN2.out⟩, ⟨HCS.out⟩⟩
      case measure => omega
    | succ k2 => as_aux_lemma =>
      have hq : q < 2 := by have := HQ.out; omega
      have hlt3 : decide (q < 2) = true := by simp [hq]
      have hlt4 : decide ((q : Int) < 2) = true := decide_eq_true (by omega)
      have hq4 : (q : Int) < 2 := by omega
      obtain ⟨hqm, hcm⟩ := HCL.out wr HBW.out.1 q hq
      have HS1 := Lib.hid (show changesC lo hi l = xs ++ ((if withinB 1 2000 [ms[q]] = true then ms[q] :: minsF (ms.drop (q + 1)) else minsF (ms.drop (q + 1))) ++ (l2.drop (i + 1)).flatMap (minsP lo hi)) by
        have := HS.out
        rw [List.drop_eq_getElem_cons hqm] at this
        unfold minsF at this ⊢
        rw [List.filter_cons] at this
        exact this)
      clear HS
      generalize ms[q] = m at *
      have hxl : xs.length ≤ 1000 := by have := HN.out; omega
      cases hw : withinB 1 2000 [m] with
      | false =>
        have HS2 := Lib.hid (show changesC lo hi l = xs ++ (minsF (ms.drop (q + 1)) ++ (l2.drop (i + 1)).flatMap (minsP lo hi)) by
          have := HS1.out
          rw [hw] at this
          exact this)
        have HW := Lib.hid hw
        clear hw
        go_wp2_with fail
        refine (within_one 1 2000 m _ _ _ ?_).mono ?_
        focus (go_simp; done)
        rintro e W3 ⟨rfl, hb3⟩
        rw [HW.out]
        have hb4 := alloc_step hb3
        have HCS3 := Lib.hid (HCS.out.below hb4)
        have HBW3 := Lib.hid (blk_below HBW.out.1 hb4)
        clear hb3 hb4
        go_wp2
        go_roundg k2
        case rel => exact ⟨q + 1, b, cap, xs, (by go_num), rfl, ⟨(by have := HQ.out; omega)⟩, ⟨HS2.out⟩, ⟨(by have := HN.out; omega)⟩, ⟨HCS3.out⟩, ⟨HBW3.out, HBW.out.2⟩⟩
        case measure => omega
      | true => ?_
      have HS2 := Lib.hid (show changesC lo hi l = (xs ++ [m]) ++ (minsF (ms.drop (q + 1)) ++ (l2.drop (i + 1)).flatMap (minsP lo hi)) by
        have := HS1.out
        rw [hw] at this
        rw [this, List.append_assoc]
        rfl)
      have HW := Lib.hid hw
      clear hw
      go_wp2_with fail
      refine (within_one 1 2000 m _ _ _ ?_).mono ?_
      focus (go_simp; done)
      rintro e W3 ⟨rfl, hb3⟩
      rw [HW.out]
      have hb4 := alloc_step hb3
      have HCS3 := Lib.hid (HCS.out.below hb4)
      have HBW3 := Lib.hid (blk_below HBW.out.1 hb4)
      clear hb3 hb4
      obtain ⟨b', cap', w', hap, hcs, hkeep⟩ := HCS3.out.app HN.out.1 hxl m rfl
      have HCS4 := Lib.hid hcs
      have HX := Lib.hid (hkeep gl _ HBW.out.2 HBW3.out)
      clear hcs hkeep
      go_wp2_with ((with_reducible refine gate_builtin (b := .append) (xs := #[.tmp 37, .tmp 39]) rfl ?_); at_builtin; refine append_run rfl (.tmp 37) (.tmp 39) 48 rfl _ _ _ w' rfl rfl hap ?_)
      go_roundg k2
      case rel => exact ⟨q + 1, b', cap', xs ++ [m], (by go_num), (by simp), ⟨(by have := HQ.out; omega)⟩, ⟨HS2.out⟩, ⟨(by have := HN.out; simp; omega)⟩, ⟨HCS4.out⟩, ⟨HX.out.1, HX.out.2⟩⟩
      case measure => omega
end Go.Proofs.Ytcgdbjojjpoegaa.P

namespace Go.Proofs.Ytcgdbjojjpoegaa.P
open Go.RowKit Go.Proofs.YtcgdbjojjpoegaaW.PrintWords Go.Proofs.YtcgdbjojjpoegaaW.PrintLast Go.Proofs.YtcgdbjojjpoegaaW.PrintMore
attribute [local go_sem] max2_int min2_int max_two min_two max_three min_three max_four min_four   -- for this text's walks alone
set_option linter.unusedVariables false
set_option linter.unusedSimpArgs false

/-! ### pole_checkClocks: function 53 -/
def pole_checkClocks.f (l0 : List (S54)) (a1_0 : Int) (a1_1 : Int) : Option (Int) := (pole_CheckSign.f l0).bind fun t110 => (if t110 = 0 then ((pole_within.f (-100) 100 (([a1_0, a1_1] : List Int))).bind fun t114 => (if t114 = true then (if a1_0 > a1_1 then (some 2) else (some 0)) else (some 2))) else (some t110))
set_option maxHeartbeats 8000000 in
set_option maxRecDepth 100000 in
theorem pole_checkClocks.calls (A0 : Option Addr) (c0 : Nat) (l0 : List (S54)) (a1_0 : Int) (a1_1 : Int) (r : Int) (w : World) (hr0 : Kd.C k54 w A0 l0.length l0) (hc0 : l0.length ≤ c0) (h : pole_checkClocks.f l0 a1_0 a1_1 = some r) :
    Calls Try.prog 53 #[.slice A0 l0.length c0, .agg #[.int .i64 a1_0, .int .i64 a1_1]] w fun e w' => e = .returned (.int .i64 r) ∧ Below w.heap.size w w' := by
  have hu24 := Try.underlying24
  have HR0 := Aside0.mk hr0
  have HC0 := Aside0.mk hc0
  clear hr0 hc0
  have HB := Aside0.mk (Below.refl w.heap.size w)
  have H : ((pole_CheckSign.f l0).bind fun t110 => (if t110 = 0 then ((pole_within.f (-100) 100 (([a1_0, a1_1] : List Int))).bind fun t114 => (if t114 = true then (if a1_0 > a1_1 then (some 2) else (some 0)) else (some 2))) else (some t110))) = some r := h
  clear h
  replace H := Option.bind_eq_some_iff.mp H
  obtain ⟨t110, A30, H⟩ := H
  replace H : (if t110 = 0 then ((pole_within.f (-100) 100 (([a1_0, a1_1] : List Int))).bind fun t114 => (if t114 = true then (if a1_0 > a1_1 then (some 2) else (some 0)) else (some 2))) else (some t110)) = some r := H
  have A3 := Aside0.mk A30
  clear A30
  by_cases c4 : t110 = 0
  rotate_left
  · rw [if_neg c4] at H
    have c4b0 : (t110 == 0) = false := beq_eq_false_iff_ne.mpr c4
    have c4b1 : (t110 != 0) = true := bne_iff_ne.mpr c4
    obtain rfl := Option.some.inj H
    go_enter Try.func53, Try.ntmps53
    go_wp2_with (first | ((with_reducible refine gate_dst (N := 3) rfl ?_); refine bx_ (cs := #[.int .i64 a1_0, .int .i64 a1_1]) (t := 24) (fun gb109 w31 BK109 GE109 HB => ?_)) | ((with_reducible refine gate_callee (f := 20) rfl ?_); refine goesL_ (some 7) rfl rfl Try.func20 (by kernel_rfl) rfl #[.slice A0 l0.length c0] rfl b3_ ?_; (with_reducible refine (pole_CheckSign.calls _ _ l0 t110 _ ?side1 ?side2 A3.out).mono ?_); (case side1 => repeat (first | exact (Kd.C_below HR0.out HB.out) | (with_reducible refine Kd.C_alloc ?_ _) | (with_reducible refine Kd.C_drewN ?_ _) | (with_reducible refine Kd.C_drew ?_))); (case side2 => exact HC0.out); rintro e w32 ⟨rfl, hb⟩; refine ⟨_, rfl, ?_⟩; replace BK109 := bk_ BK109 hb; replace HB := hB_ HB hb; (try clear hb)))
    go_ret
    exact ⟨b4_, b1_⟩
  rw [if_pos c4] at H
  have c4b0 : (t110 == 0) = true := beq_iff_eq.mpr c4
  have c4b1 : (t110 != 0) = false := bne_eq_false_iff_eq.mpr c4
  clear c4
  obtain ⟨y111, hy111⟩ : ∃ y_ : List Int, y_ = (([a1_0, a1_1] : List Int)) := ⟨_, rfl⟩
  replace H : ((pole_within.f (-100) 100 y111).bind fun t114 => (if t114 = true then (if a1_0 > a1_1 then (some 2) else (some 0)) else (some 2))) = some r := by first | (rw [hy111]; with_reducible exact H) | (have H2_ := (Option.bind_some _ _).symm.trans H; rw [hy111]; with_reducible exact H2_) | (have H2_ := (Option.bind_some _ _).symm.trans H; with_reducible exact H2_) | with_reducible exact H | (rw [hy111]; exact H) | exact H
  have Ny111 := Aside0.mk hy111
  clear hy111
  replace H := Option.bind_eq_some_iff.mp H
  obtain ⟨t114, A50, H⟩ := H
  replace H : (if t114 = true then (if a1_0 > a1_1 then (some 2) else (some 0)) else (some 2)) = some r := H
  have A5 := Aside0.mk A50
  clear A50
  by_cases c6 : t114 = true
  rotate_left
  · replace c6 := Bool.eq_false_iff.mpr c6
    subst c6
    have H1 : (some 2) = some r := by rw [if_neg (show ¬ (false = true) by decide)] at H; exact H
    clear H
    have H := H1
    clear H1
    obtain rfl := Option.some.inj H
    go_enter Try.func53, Try.ntmps53
    go_wp2_with (first | ((with_reducible refine gate_dst (N := 3) rfl ?_); refine bx_ (cs := #[.int .i64 a1_0, .int .i64 a1_1]) (t := 24) (fun gb109 w24 BK109 GE109 HB => ?_)) | ((with_reducible refine gate_callee (f := 20) rfl ?_); refine goesL_ (some 7) rfl rfl Try.func20 (by kernel_rfl) rfl #[.slice A0 l0.length c0] rfl b3_ ?_; (with_reducible refine (pole_CheckSign.calls _ _ l0 t110 _ ?side1 ?side2 A3.out).mono ?_); (case side1 => repeat (first | exact (Kd.C_below HR0.out HB.out) | (with_reducible refine Kd.C_alloc ?_ _) | (with_reducible refine Kd.C_drewN ?_ _) | (with_reducible refine Kd.C_drew ?_))); (case side2 => exact HC0.out); rintro e w25 ⟨rfl, hb⟩; refine ⟨_, rfl, ?_⟩; replace BK109 := bk_ BK109 hb; replace HB := hB_ HB hb; (try clear hb); obtain ⟨hcz26_0, hcz26_1, hfz26_0, hfz26_1⟩ := cz2_ BK109.out) | ((with_reducible refine gate_dst (N := 17) rfl ?_); refine Kd.R_lit (Kd.int .i64) _ 2 ?hg (N := 17) ?hd (xs := ([a1_0, a1_1] : List Int)) (inner := [.int .i64 a1_0, .int .i64 a1_1]) (ok := fun _ => True) (okp := fun _ => True) ?hr ?hp (fun _ hk => hk) trivial (Below.refl _ _) (Nat.le_refl _) (by simp) ?_; (case hd => rfl); (case hg => rfl); (case hr => first | (go_simp; done) | (go_simp; rfl)); (case hp => exact (Reps.one (show Kd.M (Kd.int .i64) _ _ _ a1_0 [.int .i64 a1_0] from rfl) (Reps.one (show Kd.M (Kd.int .i64) _ _ _ a1_1 [.int .i64 a1_1] from rfl) (Reps.none _ _)))); intro v112 w27 ho28 hb hg_ hnew_; clear hg_ hnew_; (first | rw [← Ny111.out] at ho28 | (simp only [Int.reduceToNat] at ho28; rw [← Ny111.out] at ho28)); have HO113 := Aside0.mk (Kd.R_lower ho28 (below_size b1_)); replace BK109 := bk_ BK109 hb; replace HB := hB_ HB hb; clear hb ho28; obtain ⟨Ao29, co29, eo29⟩ := Kd.R_slice HO113.out; subst eo29) | ((with_reducible refine gate_callee (f := 51) rfl ?_); refine goesL_ (some 18) rfl rfl Try.func51 (by kernel_rfl) rfl #[.int .i64 (-100), .int .i64 100, .slice Ao29 y111.length co29] rfl b3_ ?_; (with_reducible refine (pole_within.calls (-100) 100 _ _ y111 false _ ?side1 ?side2 A5.out).mono ?_); (case side1 => repeat (first | exact (Kd.R_reads' HO113.out).2.2 | (with_reducible refine Kd.C_alloc ?_ _) | (with_reducible refine Kd.C_drewN ?_ _) | (with_reducible refine Kd.C_drew ?_))); (case side2 => exact (Kd.R_reads' HO113.out).2.1); rintro e w30 ⟨rfl, hb⟩; refine ⟨_, rfl, ?_⟩; replace HO113 := Aside0.mk (Kd.R_below (by (with_reducible repeat (first | apply Kd.R_alloc | apply Kd.R_drewN | apply Kd.R_drew)); exact HO113.out) hb); replace BK109 := bk_ BK109 hb; replace HB := hB_ HB hb; (try clear hb)))
    go_ret
    exact ⟨b4_, b1_⟩
  subst c6
  have H1 : (if a1_0 > a1_1 then (some 2) else (some 0)) = some r := by rw [if_pos rfl] at H; exact H
  clear H
  have H := H1
  clear H1
  by_cases c7 : a1_0 > a1_1
  · rw [if_pos c7] at H
    have c7b0 : decide (a1_1 < a1_0) = true := decide_eq_true c7
    clear c7
    obtain rfl := Option.some.inj H
    go_enter Try.func53, Try.ntmps53
    go_wp2_with (first | ((with_reducible refine gate_dst (N := 3) rfl ?_); refine bx_ (cs := #[.int .i64 a1_0, .int .i64 a1_1]) (t := 24) (fun gb109 w8 BK109 GE109 HB => ?_)) | ((with_reducible refine gate_callee (f := 20) rfl ?_); refine goesL_ (some 7) rfl rfl Try.func20 (by kernel_rfl) rfl #[.slice A0 l0.length c0] rfl b3_ ?_; (with_reducible refine (pole_CheckSign.calls _ _ l0 t110 _ ?side1 ?side2 A3.out).mono ?_); (case side1 => repeat (first | exact (Kd.C_below HR0.out HB.out) | (with_reducible refine Kd.C_alloc ?_ _) | (with_reducible refine Kd.C_drewN ?_ _) | (with_reducible refine Kd.C_drew ?_))); (case side2 => exact HC0.out); rintro e w9 ⟨rfl, hb⟩; refine ⟨_, rfl, ?_⟩; replace BK109 := bk_ BK109 hb; replace HB := hB_ HB hb; (try clear hb); obtain ⟨hcz10_0, hcz10_1, hfz10_0, hfz10_1⟩ := cz2_ BK109.out) | ((with_reducible refine gate_dst (N := 17) rfl ?_); refine Kd.R_lit (Kd.int .i64) _ 2 ?hg (N := 17) ?hd (xs := ([a1_0, a1_1] : List Int)) (inner := [.int .i64 a1_0, .int .i64 a1_1]) (ok := fun _ => True) (okp := fun _ => True) ?hr ?hp (fun _ hk => hk) trivial (Below.refl _ _) (Nat.le_refl _) (by simp) ?_; (case hd => rfl); (case hg => rfl); (case hr => first | (go_simp; done) | (go_simp; rfl)); (case hp => exact (Reps.one (show Kd.M (Kd.int .i64) _ _ _ a1_0 [.int .i64 a1_0] from rfl) (Reps.one (show Kd.M (Kd.int .i64) _ _ _ a1_1 [.int .i64 a1_1] from rfl) (Reps.none _ _)))); intro v112 w11 ho12 hb hg_ hnew_; clear hg_ hnew_; (first | rw [← Ny111.out] at ho12 | (simp only [Int.reduceToNat] at ho12; rw [← Ny111.out] at ho12)); have HO113 := Aside0.mk (Kd.R_lower ho12 (below_size b1_)); replace BK109 := bk_ BK109 hb; replace HB := hB_ HB hb; clear hb ho12; obtain ⟨Ao13, co13, eo13⟩ := Kd.R_slice HO113.out; subst eo13) | ((with_reducible refine gate_callee (f := 51) rfl ?_); refine goesL_ (some 18) rfl rfl Try.func51 (by kernel_rfl) rfl #[.int .i64 (-100), .int .i64 100, .slice Ao13 y111.length co13] rfl b3_ ?_; (with_reducible refine (pole_within.calls (-100) 100 _ _ y111 true _ ?side1 ?side2 A5.out).mono ?_); (case side1 => repeat (first | exact (Kd.R_reads' HO113.out).2.2 | (with_reducible refine Kd.C_alloc ?_ _) | (with_reducible refine Kd.C_drewN ?_ _) | (with_reducible refine Kd.C_drew ?_))); (case side2 => exact (Kd.R_reads' HO113.out).2.1); rintro e w14 ⟨rfl, hb⟩; refine ⟨_, rfl, ?_⟩; replace HO113 := Aside0.mk (Kd.R_below (by (with_reducible repeat (first | apply Kd.R_alloc | apply Kd.R_drewN | apply Kd.R_drew)); exact HO113.out) hb); replace BK109 := bk_ BK109 hb; replace HB := hB_ HB hb; (try clear hb); obtain ⟨hcz15_0, hcz15_1, hfz15_0, hfz15_1⟩ := cz2_ BK109.out))
    go_ret
    exact ⟨b4_, b1_⟩
  rw [if_neg c7] at H
  have c7b0 : decide (a1_1 < a1_0) = false := decide_eq_false c7
  clear c7
  obtain rfl := Option.some.inj H
  go_enter Try.func53, Try.ntmps53
  go_wp2_with (first | ((with_reducible refine gate_dst (N := 3) rfl ?_); refine bx_ (cs := #[.int .i64 a1_0, .int .i64 a1_1]) (t := 24) (fun gb109 w16 BK109 GE109 HB => ?_)) | ((with_reducible refine gate_callee (f := 20) rfl ?_); refine goesL_ (some 7) rfl rfl Try.func20 (by kernel_rfl) rfl #[.slice A0 l0.length c0] rfl b3_ ?_; (with_reducible refine (pole_CheckSign.calls _ _ l0 t110 _ ?side1 ?side2 A3.out).mono ?_); (case side1 => repeat (first | exact (Kd.C_below HR0.out HB.out) | (with_reducible refine Kd.C_alloc ?_ _) | (with_reducible refine Kd.C_drewN ?_ _) | (with_reducible refine Kd.C_drew ?_))); (case side2 => exact HC0.out); rintro e w17 ⟨rfl, hb⟩; refine ⟨_, rfl, ?_⟩; replace BK109 := bk_ BK109 hb; replace HB := hB_ HB hb; (try clear hb); obtain ⟨hcz18_0, hcz18_1, hfz18_0, hfz18_1⟩ := cz2_ BK109.out) | ((with_reducible refine gate_dst (N := 17) rfl ?_); refine Kd.R_lit (Kd.int .i64) _ 2 ?hg (N := 17) ?hd (xs := ([a1_0, a1_1] : List Int)) (inner := [.int .i64 a1_0, .int .i64 a1_1]) (ok := fun _ => True) (okp := fun _ => True) ?hr ?hp (fun _ hk => hk) trivial (Below.refl _ _) (Nat.le_refl _) (by simp) ?_; (case hd => rfl); (case hg => rfl); (case hr => first | (go_simp; done) | (go_simp; rfl)); (case hp => exact (Reps.one (show Kd.M (Kd.int .i64) _ _ _ a1_0 [.int .i64 a1_0] from rfl) (Reps.one (show Kd.M (Kd.int .i64) _ _ _ a1_1 [.int .i64 a1_1] from rfl) (Reps.none _ _)))); intro v112 w19 ho20 hb hg_ hnew_; clear hg_ hnew_; (first | rw [← Ny111.out] at ho20 | (simp only [Int.reduceToNat] at ho20; rw [← Ny111.out] at ho20)); have HO113 := Aside0.mk (Kd.R_lower ho20 (below_size b1_)); replace BK109 := bk_ BK109 hb; replace HB := hB_ HB hb; clear hb ho20; obtain ⟨Ao21, co21, eo21⟩ := Kd.R_slice HO113.out; subst eo21) | ((with_reducible refine gate_callee (f := 51) rfl ?_); refine goesL_ (some 18) rfl rfl Try.func51 (by kernel_rfl) rfl #[.int .i64 (-100), .int .i64 100, .slice Ao21 y111.length co21] rfl b3_ ?_; (with_reducible refine (pole_within.calls (-100) 100 _ _ y111 true _ ?side1 ?side2 A5.out).mono ?_); (case side1 => repeat (first | exact (Kd.R_reads' HO113.out).2.2 | (with_reducible refine Kd.C_alloc ?_ _) | (with_reducible refine Kd.C_drewN ?_ _) | (with_reducible refine Kd.C_drew ?_))); (case side2 => exact (Kd.R_reads' HO113.out).2.1); rintro e w22 ⟨rfl, hb⟩; refine ⟨_, rfl, ?_⟩; replace HO113 := Aside0.mk (Kd.R_below (by (with_reducible repeat (first | apply Kd.R_alloc | apply Kd.R_drewN | apply Kd.R_drew)); exact HO113.out) hb); replace BK109 := bk_ BK109 hb; replace HB := hB_ HB hb; (try clear hb); obtain ⟨hcz23_0, hcz23_1, hfz23_0, hfz23_1⟩ := cz2_ BK109.out))
  go_ret
  exact ⟨b4_, b1_⟩

end Go.Proofs.Ytcgdbjojjpoegaa.P

namespace Go.Proofs.Ytcgdbjojjpoegaa.P
open Go.RowKit Go.Proofs.YtcgdbjojjpoegaaW.PrintWords Go.Proofs.YtcgdbjojjpoegaaW.PrintLast Go.Proofs.YtcgdbjojjpoegaaW.PrintMore
set_option linter.unusedVariables false
set_option linter.unusedSimpArgs false

/-- What is asked of a function value that is asked for the numbers of a list alone. -/
def PredIn (g : Nat) (lb : Array Value) (p : Int → Bool) (l : List Int) (w : World) : Prop :=
  ∀ (W : World) (x : Int), x ∈ l → Below w.heap.size w W → Calls Try.prog g (#[.int .i64 x] ++ lb) W fun e w' => e = .returned (.bool (p x)) ∧ Below W.heap.size W w'

set_option maxHeartbeats 1000000 in
set_option maxRecDepth 100000 in
theorem IndexIn60 (g : Nat) (lb : Array Value) (p : Int → Bool) (A : Option Addr) (c : Nat) (l : List (Int)) (w : World)
    (eg : ∀ args w, (callFunc g args).run Try.prog w = .ok (.enter g args) w)
    (hr : Kd.C (Kd.int .i64) w A l.length l) (hp : PredIn g lb p l w) :
    Calls Try.prog 60 #[.slice A l.length c, .func (.func g) #[] lb] w fun e w' => e = .returned (.int .i64 (idxP p l)) ∧ Below w.heap.size w w' := by
  have HR0 := Aside0.mk hr
  have HP := Aside0.mk hp
  have HL := Aside0.mk hr.2.1
  clear hr hp
  go_enter Try.func60, Try.ntmps60
  go_wp2
  go_loopg [8] l.length (fun kq v8 w' => ∃ i : Nat, v8 = .int .i64 i ∧ Aside0 (i + kq = l.length) ∧ Aside0 (∀ j (hj : j < l.length), j < i → p l[j] = false) ∧ Aside0 (Below w.heap.size w w'))
  case atStart => exact ⟨0, rfl, ⟨(by omega)⟩, ⟨fun j hj h => absurd h (by omega)⟩, ⟨Below.refl _ _⟩⟩
  obtain ⟨i, rfl, HI, HN, HB⟩ := hrel
  cases gk with
  | zero =>
    have hi : i = l.length := by have := HI.out; omega
    have hlt : decide (i < l.length) = false := by rw [hi]; simp
    go_wp2
    go_ret
    refine ⟨?_, HB.out⟩
    rw [idxP_miss p l (fun j hj => HN.out j hj (by omega))]
    rfl
  | succ k1 => ?_
  have hi : i < l.length := by have := HI.out; omega
  have hlt : decide (i < l.length) = true := by simp [hi]
  have hC := Kd.C_below HR0.out HB.out
  obtain ⟨ad, e0, hc0⟩ := Kd.at_int hC (i : Int) (by omega) (by omega)
  cases e0
  rw [Int.toNat_natCast] at hc0
  have hpp := Lib.hid (HP.out wr (rd l (i : Int)) (by rw [rd_nat l i hi]; exact List.getElem_mem hi) HB.out)
  have hle := HL.out
  clear hC
  go_wp2_with (go_at_fn g; refine (hpp.out).mono ?_; rintro e w' ⟨rfl, hb⟩)
  · have hpx : p (rd l (i : Int)) = true := by assumption
    have hpi : p l[i] = true := by rwa [rd_nat l i hi] at hpx
    go_ret
    exact ⟨(by rw [idxP_hit p l i hi (fun j hj h => HN.out j hj h) hpi]; rfl), HB.out.trans (hb.mono HB.out.size)⟩
  have hpx : p (rd l (i : Int)) = false := by assumption
  have hpi : p l[i] = false := by rwa [rd_nat l i hi] at hpx
  go_roundg k1
  case rel => exact ⟨i + 1, (by go_num), ⟨b21_⟩, ⟨fun j hj h => by
    by_cases e : j = i
    · subst e; exact hpi
    · exact HN.out j hj (by omega)⟩, ⟨HB.out.trans (hb.mono HB.out.size)⟩⟩
  case measure => omega
/-- whether a sign cheats at a minute -/
def cheatO (l pump : List S54) (lo hi m : Int) : Option Bool :=
  (pole_at.f 100 pump m).bind fun i => if 0 ≤ i ∧ i < (pump.length : Int) then (pole_fair.f l lo hi m).bind fun f => some (decide (f < (rd_T54 pump i).f1)) else none
def cheatP (l pump : List S54) (lo hi m : Int) : Bool := (cheatO l pump lo hi m).getD false
def cheatP59.T1 : Bool × List (List Nat × List Nat) := (true, [([], []), ([], []), ([], []), ([1, 2], [1, 2]), ([0, 3], [0, 3]), ([4], [4]), ([5], [5]), ([], []), ([], []), ([], []), ([7, 8, 9, 3], [7, 8, 9]), ([6, 10], [6, 10]), ([11, 10, 0, 1, 2, 3, 4, 5, 6, 7, 8, 9, 10, 11], [11])])
def cheatP59.B1 : List Nat := [0, 0, 0, 6, 15, 31, 63, 0, 0, 0, 910, 2047, 4095]
theorem cheatP59.tab1 : rtab .any (opsOf Try.f59 1) = cheatP59.T1 := by kernel_rfl
theorem cheatP59.bits1 : waitsOk cheatP59.T1.2 cheatP59.B1 = true := by kernel_rfl
set_option maxHeartbeats 2000000 in
set_option maxRecDepth 100000 in
theorem cheats_lit (w : World) (gp gq gc : Nat) (A Ap : Option Addr) (c cp : Nat) (l pump : List S54) (lo hi : Int) (ms : List Int) (hr : Kd.C k54 w A l.length l) (hc : l.length ≤ c) (hrp : Kd.C k54 w Ap pump.length pump) (hcp : pump.length ≤ cp)
    (b1 : w.heap[gp]? = some (.cells #[.slice Ap pump.length cp] 22 (0, 0))) (b2 : w.heap[gq]? = some (.cells #[.slice A l.length c] 22 (0, 0))) (b3 : w.heap[gc]? = some (.cells #[.int .i64 lo, .int .i64 hi] 24 (0, 0)))
    (hms : ∀ m ∈ ms, (cheatO l pump lo hi m).isSome = true) :
    PredIn 59 #[.pointer (some ⟨gp, 0, none⟩), .pointer (some ⟨gq, 0, none⟩), .pointer (some ⟨gc, 0, none⟩)] (cheatP l pump lo hi) ms w := by
  intro W m hm hb
  have hs := hms m hm
  obtain ⟨r, hr'⟩ := Option.isSome_iff_exists.1 hs
  have hpv : cheatP l pump lo hi m = r := by rw [cheatP, hr']; rfl
  rw [hpv]
  unfold cheatO at hr'
  rw [Option.bind_eq_some_iff] at hr'
  obtain ⟨i, hi, hr'⟩ := hr'
  split at hr'
  · rename_i hib
    rw [Option.bind_eq_some_iff] at hr'
    obtain ⟨f, hf, hr'⟩ := hr'
    injection hr' with hr'
    have c1 := blk_below b1 hb
    have c2 := blk_below b2 hb
    have c3 := blk_below b3 hb
    have HR := Lib.hid (Kd.C_below hr hb)
    have HRP := Lib.hid (Kd.C_below hrp hb)
    obtain ⟨ad, eA, _, hx1⟩ := at_T54 HRP.out i hib.1 hib.2
    cases eA
    have hi2 : ((i.toNat : Nat) : Int) = i := by omega
    have HI := Lib.hid hi
    have HF := Lib.hid hf
    have HV := Lib.hid hr'
    have HC := Lib.hid (And.intro hc hcp)
    obtain ⟨q0, q1⟩ := hib
    clear hr hrp b1 b2 b3 hms hm hs hpv hi hf hr' hc hcp hb
    generalize (rd_T54 pump i).f1 = x1 at *
    show Calls Try.prog 59 #[.int .i64 m, .pointer (some ⟨gp, 0, none⟩), .pointer (some ⟨gq, 0, none⟩), .pointer (some ⟨gc, 0, none⟩)] W _
    go_enter Try.func59, Try.ntmps59
    go_upto_region 1 with (fail)
    obtain ⟨Wd, ed⟩ : ∃ Wd, W.drew = Wd := ⟨_, rfl⟩
    have hd : Below W.heap.size W Wd := by rw [← ed]; exact below_drew (Below.refl _ _)
    refine sA_ 13 (fun w' => (w'.cell? ⟨gp, 0, none⟩ = some (.slice (some ad) pump.length cp) ∧ w'.cell? ⟨gq, 0, none⟩ = some (.slice A l.length c)) ∧ (w'.cell? ⟨gc, 0, none⟩ = some (.int .i64 lo) ∧ w'.cell? ⟨gc, 1, none⟩ = some (.int .i64 hi)) ∧ w'.cell? ⟨(ad.add (i.toNat * 2)).block, (ad.add (i.toNat * 2)).off + 1, none⟩ = some (.int .i64 x1)) [] cheatP59.tab1 cheatP59.bits1 (by rw [ed]; exact ⟨⟨(blk_cell (blk_below c1 hd) 0).trans rfl, (blk_cell (blk_below c2 hd) 0).trans rfl⟩, ⟨(blk_cell (blk_below c3 hd) 0).trans rfl, (blk_cell (blk_below c3 hd) 1).trans rfl⟩, cell_in hd hx1⟩) (fun hHeld HT_ HW_ => ?_)
    rw [ed] at hHeld ⊢
    refine pA_ 2 (some 8) 13 4 ?_
    refine pA_ 9 (some 15) 13 516 ?_
    refine tA_ 0 (some 6) 13 517 ?_
    refine tA_ 1 (some 7) 13 519 ?_
    refine tA_ 7 (some 13) 13 647 ?_
    refine tA_ 8 (some 14) 13 903 ?_
    refine oA_ 3 (some 9) 13 911 (fun K hK => ?_)
    refine goes_ Try.func52 (by kernel_rfl) rfl #[.slice (some ad) pump.length cp, .int .i64 m] (by rfl) rfl rfl b11_ ?_
    refine (pole_at.calls 100 (some ad) cp pump m i Wd (Kd.C_below HRP.out hd) HC.out.2 HI.out).mono ?_
    rintro e W2 ⟨rfl, hdr⟩
    have hb1 := drawn_below hdr
    have hd2 := below_then hd hd.size hb1
    refine ⟨_, rfl, ?_⟩
    refine hK.out _ _ ⟨⟨(blk_cell (blk_below c1 hd2) 0).trans rfl, (blk_cell (blk_below c2 hd2) 0).trans rfl⟩, ⟨(blk_cell (blk_below c3 hd2) 0).trans rfl, (blk_cell (blk_below c3 hd2) 1).trans rfl⟩, cell_in hd2 hx1⟩ (fun hHeld => ?_)
    clear hK K
    refine nA_ (some 9) ?_
    refine pA_ 4 (some 10) 13 927 ?_
    refine pA_ 5 (some 11) 13 959 ?_
    refine tA_ 6 (some 12) 13 1023 ?_
    refine oA_ 10 (some 16) 13 2047 (fun K hK => ?_)
    refine goes_ Try.func54 (by kernel_rfl) rfl #[.slice A l.length c, .agg #[.int .i64 lo, .int .i64 hi], .int .i64 m] (by rfl) rfl rfl b11_ ?_
    refine (pole_fair.calls A c l lo hi m f W2 (Kd.C_below HR.out hd2) HC.out.1 HF.out).mono ?_
    rintro e W3 ⟨rfl, hb2⟩
    have hd3 := below_then hd2 hd2.size hb2
    refine ⟨_, rfl, ?_⟩
    refine hK.out _ _ ⟨⟨(blk_cell (blk_below c1 hd3) 0).trans rfl, (blk_cell (blk_below c2 hd3) 0).trans rfl⟩, ⟨(blk_cell (blk_below c3 hd3) 0).trans rfl, (blk_cell (blk_below c3 hd3) 1).trans rfl⟩, cell_in hd3 hx1⟩ (fun hHeld => ?_)
    clear hK K
    refine nA_ (some 16) ?_
    refine pA_ 11 (some 17) 13 4095 ?_
    refine pA_ 12 (some 5) 13 8191 ?_
    refine dA_ ?_
    have HD := Lib.hid hd3
    clear hHeld HT_ HW_ hd hd2 hd3 hb1 hb2 hdr c1 c2 c3 hx1 ed
    go_wp2
    go_ret
    exact ⟨(by rw [← HV.out]; rfl), HD.out⟩
  cases hr'
end Go.Proofs.Ytcgdbjojjpoegaa.P

namespace Go.Proofs.Ytcgdbjojjpoegaa.P
open Go.RowKit Go.Proofs.YtcgdbjojjpoegaaW.PrintWords Go.Proofs.YtcgdbjojjpoegaaW.PrintLast Go.Proofs.YtcgdbjojjpoegaaW.PrintMore
set_option linter.unusedVariables false
set_option linter.unusedSimpArgs false

theorem compact_pos (zs : List Int) (h : 0 < zs.length) : 0 < (Lib.compact zs).length := by
  unfold Lib.compact Lib.compactUpTo
  rw [List.length_map]
  exact List.length_pos_of_mem (a := 0) (List.mem_filter.2 ⟨List.mem_range.2 h, (by simp [Lib.keeps])⟩)
theorem changesL_pos (lo hi : Int) (l : List S54) : 0 < (changesL lo hi l).length :=
  compact_pos _ (by rw [List.length_mergeSort]; simp [changesC])
theorem changesL_len (lo hi : Int) (l : List S54) : (changesL lo hi l).length ≤ 1 + 2 * l.length := by
  have h1 := compact_len ((changesC lo hi l).mergeSort fun x y => decide (x ≤ y))
  have h2 := flat_len lo hi (l.drop 1)
  rw [List.length_mergeSort] at h1
  unfold changesL
  unfold changesC at h1 ⊢
  rw [List.length_cons] at h1
  rw [List.length_drop] at h2
  omega
theorem signE_len {s : List S54} (h : signE s = 0) : 0 < s.length ∧ s.length ≤ 30 := by
  unfold signE at h
  split at h
  · omega
  omega
/-- the minutes that are looked at -/
def minutesL (lo hi : Int) (l pump : List S54) : List Int := (changesL lo hi l ++ pump.map (·.f0)).mergeSort fun x y => decide (x ≤ y)
def cheatR (l pump : List S54) (lo hi : Int) (ms : List Int) : Int × Int :=
  if idxP (cheatP l pump lo hi) ms < 0 then (0, 5) else (rd ms (idxP (cheatP l pump lo hi) ms), 0)
theorem idxP_lt {α : Type} (p : α → Bool) (l : List α) (h : 0 ≤ idxP p l) : idxP p l < (l.length : Int) := by
  unfold idxP at h ⊢
  split
  · rename_i i hi
    have := (List.findIdx?_eq_some_iff_getElem.1 hi).1
    omega
  rename_i hi
  rw [hi] at h
  simp at h
def pole_Cheat.f (l0 l1 : List S54) (a2_0 a2_1 : Int) : Option (Int × Int) :=
  if signE l0 = 0 then
    if signE l1 = 0 then (pole_checkClocks.f l0 a2_0 a2_1).bind fun e =>
      if e = 0 then (if (minutesL a2_0 a2_1 l0 l1).all (fun m => (cheatO l0 l1 a2_0 a2_1 m).isSome) = true then some (cheatR l0 l1 a2_0 a2_1 (minutesL a2_0 a2_1 l0 l1)) else none)
      else some (0, e)
    else some (0, signE l1)
  else some (0, signE l0)
/-- the three boxes of the call -/
structure B3 (w2 W : World) (g3 g4 : Nat) (v3 v4 : Value) (lo hi : Int) : Prop where
  b3 : W.heap[g3]? = some (.cells #[v3] 22 (0, 0))
  b4 : W.heap[g4]? = some (.cells #[v4] 22 (0, 0))
  b5 : W.heap[w2.heap.size]? = some (.cells #[.int .i64 lo, .int .i64 hi] 24 (0, 0))
  l3 : g3 < w2.heap.size
  l4 : g4 < w2.heap.size
  g : Below w2.heap.size w2 W
section
variable {w2 W W' : World} {g3 g4 : Nat} {v3 v4 : Value} {lo hi : Int}
theorem B3.below (h : B3 w2 W g3 g4 v3 v4 lo hi) (hb : Below W.heap.size W W') : B3 w2 W' g3 g4 v3 v4 lo hi :=
  ⟨blk_below h.b3 hb, blk_below h.b4 hb, blk_below h.b5 hb, h.l3, h.l4, below_then h.g h.g.size hb⟩
theorem B3.cells (h : B3 w2 W g3 g4 v3 v4 lo hi) : W.cell? ⟨g3, 0, none⟩ = some v3 ∧ W.cell? ⟨g4, 0, none⟩ = some v4 ∧ W.cell? ⟨w2.heap.size, 0, none⟩ = some (.int .i64 lo) ∧ W.cell? ⟨w2.heap.size, 1, none⟩ = some (.int .i64 hi) :=
  ⟨(blk_cell h.b3 0).trans rfl, (blk_cell h.b4 0).trans rfl, (blk_cell h.b5 0).trans rfl, (blk_cell h.b5 1).trans rfl⟩
end

set_option maxHeartbeats 4000000 in
set_option maxRecDepth 100000 in
theorem pole_Cheat.calls (A0 : Option Addr) (c0 : Nat) (l0 : List S54) (A1 : Option Addr) (c1 : Nat) (l1 : List S54) (a2_0 a2_1 : Int) (r1 r2 : Int) (w : World) (hr0 : Kd.C k54 w A0 l0.length l0) (hc0 : l0.length ≤ c0) (hr1 : Kd.C k54 w A1 l1.length l1) (hc1 : l1.length ≤ c1) (h : pole_Cheat.f l0 l1 a2_0 a2_1 = some (r1, r2)) :
    Calls Try.prog 22 #[.slice A0 l0.length c0, .slice A1 l1.length c1, .agg #[.int .i64 a2_0, .int .i64 a2_1]] w fun e w' => e = .returned (.tuple #[.int .i64 r1, .int .i64 r2]) ∧ Below w.heap.size w w' := by
  have HR0 := Lib.hid hr0
  have HR1 := Lib.hid hr1
  have HC := Lib.hid (And.intro hc0 hc1)
  have HBw := Lib.hid (boxes2 w (.cells #[.slice A0 l0.length c0] 22) (.cells #[.slice A1 l1.length c1] 22))
  have X3 := blk_alloc (blk_new w (.cells #[.slice A0 l0.length c0] 22)) (.cells #[.slice A1 l1.length c1] 22)
  have X4 := blk_new (w.alloc (.cells #[.slice A0 l0.length c0] 22)) (.cells #[.slice A1 l1.length c1] 22)
  simp only [World.size_alloc] at X4
  have hs2 : ((w.alloc (.cells #[.slice A0 l0.length c0] 22)).alloc (.cells #[.slice A1 l1.length c1] 22)).heap.size = w.heap.size + 1 + 1 := by simp only [World.size_alloc]
  have HH := Lib.hid h
  clear hr0 hr1 hc0 hc1 h
  go_enter Try.func22, Try.ntmps22
  go_upto_region 1 with (fail)
  rw [← hs2]
  generalize (w.alloc (.cells #[.slice A0 l0.length c0] 22)).alloc (.cells #[.slice A1 l1.length c1] 22) = w2 at *
  have Y := Lib.hid (show B3 w2 (w2.alloc (.cells #[.int .i64 a2_0, .int .i64 a2_1] 24)) w.heap.size (w.heap.size + 1) (.slice A0 l0.length c0) (.slice A1 l1.length c1) a2_0 a2_1 from
    ⟨blk_alloc X3 _, blk_alloc X4 _, blk_new _ _, (by omega), (by omega), box1 _ _⟩)
  clear X3 X4
  generalize w2.alloc (.cells #[.int .i64 a2_0, .int .i64 a2_1] 24) = W0 at *
  have HS2 := Lib.hid hs2
  generalize w.heap.size + 1 = g4 at *
  obtain ⟨g3, eg3⟩ : ∃ g, w.heap.size = g := ⟨_, rfl⟩
  rw [eg3] at Y ⊢
  generalize eg5 : w2.heap.size = g5 at *
  clear hs2
  obtain ⟨y3, y4, y50, y51⟩ := Y.out.cells
  rw [eg5] at y50 y51
  have HG5 := Lib.hid eg5
  go_wp2_with fail
  refine (checkSign_calls A0 c0 l0 W0 (Kd.C_below HR0.out (below_then HBw.out HBw.out.size (by have := Y.out.g; exact this)))).mono ?_
  rintro e W1 ⟨rfl, hb1⟩
  have Y1 := Lib.hid (Y.out.below hb1)
  clear y3 y4 y50 y51 hb1 Y
  obtain ⟨E, eE⟩ : ∃ E, signE l0 = E := ⟨_, rfl⟩
  rw [eE]
  by_cases q1 : E = 0
  rotate_left
  · have t1 : (E != 0) = true := by simp [q1]
    have HZ := Lib.hid (show (0, E) = (r1, r2) by
      have := HH.out
      unfold pole_Cheat.f at this
      rw [if_neg (by rw [eE]; exact q1), eE] at this
      exact Option.some.inj this)
    obtain ⟨rfl, rfl⟩ := Prod.mk.inj HZ.out
    have HB6 := Lib.hid (below_then HBw.out HBw.out.size Y1.out.g)
    clear HH HZ q1 Y1 eE
    go_wp2
    go_ret2
    exact ⟨rfl, HB6.out⟩
  have t1 : (E != 0) = false := by simp [q1]
  have EE := Lib.hid (show signE l0 = 0 by rw [eE, q1])
  clear eE q1
  obtain ⟨y3, y4, y50, y51⟩ := Y1.out.cells
  rw [HG5.out] at y50 y51
  go_wp2_with fail
  refine (checkSign_calls A1 c1 l1 W1 (Kd.C_below HR1.out (below_then HBw.out HBw.out.size (by have := Y1.out.g; exact this)))).mono ?_
  rintro e W2 ⟨rfl, hb1⟩
  have Y2 := Lib.hid (Y1.out.below hb1)
  clear y3 y4 y50 y51 hb1 Y1 t1
  obtain ⟨F, eF⟩ : ∃ E, signE l1 = E := ⟨_, rfl⟩
  rw [eF]
  by_cases q2 : F = 0
  rotate_left
  · have t2 : (F != 0) = true := by simp [q2]
    have HZ := Lib.hid (show (0, F) = (r1, r2) by
      have := HH.out
      unfold pole_Cheat.f at this
      rw [if_pos EE.out, if_neg (by rw [eF]; exact q2), eF] at this
      exact Option.some.inj this)
    obtain ⟨rfl, rfl⟩ := Prod.mk.inj HZ.out
    have HB6 := Lib.hid (below_then HBw.out HBw.out.size Y2.out.g)
    clear HH HZ q2 Y2 eF
    go_wp2
    go_ret2
    exact ⟨rfl, HB6.out⟩
  have t2 : (F != 0) = false := by simp [q2]
  have EF := Lib.hid (show signE l1 = 0 by rw [eF, q2])
  clear eF q2
  obtain ⟨D, eD, hX⟩ : ∃ D, pole_checkClocks.f l0 a2_0 a2_1 = some D ∧ (if D = 0 then (if (minutesL a2_0 a2_1 l0 l1).all (fun m => (cheatO l0 l1 a2_0 a2_1 m).isSome) = true then some (cheatR l0 l1 a2_0 a2_1 (minutesL a2_0 a2_1 l0 l1)) else none) else some (0, D)) = some (r1, r2) := by
    have := HH.out
    unfold pole_Cheat.f at this
    rw [if_pos EE.out, if_pos EF.out, Option.bind_eq_some_iff] at this
    exact this
  have HD := Lib.hid eD
  have HX := Lib.hid hX
  clear eD hX HH
  obtain ⟨y3, y4, y50, y51⟩ := Y2.out.cells
  rw [HG5.out] at y50 y51
  go_wp2_with fail
  refine (pole_checkClocks.calls A0 c0 l0 a2_0 a2_1 D W2 (Kd.C_below HR0.out (below_then HBw.out HBw.out.size (by have := Y2.out.g; exact this))) HC.out.1 HD.out).mono ?_
  rintro e W3 ⟨rfl, hb1⟩
  have Y3 := Lib.hid (Y2.out.below hb1)
  clear y3 y4 y50 y51 hb1 Y2 t2
  by_cases q3 : D = 0
  rotate_left
  · have t3 : (D != 0) = true := by simp [q3]
    have HZ := Lib.hid (show (0, D) = (r1, r2) by
      have := HX.out
      rw [if_neg q3] at this
      exact Option.some.inj this)
    obtain ⟨rfl, rfl⟩ := Prod.mk.inj HZ.out
    have HB6 := Lib.hid (below_then HBw.out HBw.out.size Y3.out.g)
    clear HX HZ q3 Y3 HD
    go_wp2
    go_ret2
    exact ⟨rfl, HB6.out⟩
  have t3 : (D != 0) = false := by simp [q3]
  have HZ := Lib.hid (show (minutesL a2_0 a2_1 l0 l1).all (fun m => (cheatO l0 l1 a2_0 a2_1 m).isSome) = true ∧ cheatR l0 l1 a2_0 a2_1 (minutesL a2_0 a2_1 l0 l1) = (r1, r2) by
    have := HX.out
    rw [if_pos q3] at this
    split at this
    · rename_i h1
      exact ⟨h1, Option.some.inj this⟩
    · cases this)
  clear q3 HX HD
  obtain ⟨y3, y4, y50, y51⟩ := Y3.out.cells
  rw [HG5.out] at y50 y51
  go_wp2_with fail
  have hl0 := signE_len EE.out
  refine (changes_calls A0 c0 l0 a2_0 a2_1 W3 (Kd.C_below HR0.out (below_then HBw.out HBw.out.size (by have := Y3.out.g; exact this))) HC.out.1 hl0.1 (by omega)).mono ?_
  clear hl0
  rintro e W4 ⟨b, cap, rfl, hrow, hbase, hb1⟩
  have Y4 := Lib.hid (Y3.out.below hb1)
  have hW3 : w2.heap.size ≤ W3.heap.size := Y3.out.g.size
  have CS0 := Lib.hid (show CS w2 W4 w2.heap.size a2_0 a2_1 b cap (changesL a2_0 a2_1 l0) from ⟨hrow, Y4.out.b5, (by omega), (by have := blk_lt Y3.out.b5; omega), Y4.out.g⟩)
  have HP := Lib.hid (And.intro (changesL_pos a2_0 a2_1 l0) (changesL_len a2_0 a2_1 l0))
  clear y3 y4 y50 y51 hb1 Y3 t3 hrow hbase hW3
  obtain ⟨y3, y4, y50, y51⟩ := Y4.out.cells
  clear y3 y50 y51
  have H30 := Lib.hid (show l0.length ≤ 30 ∧ l1.length ≤ 30 from ⟨(signE_len EE.out).2, (signE_len EF.out).2⟩)
  have HB4 := Lib.hid (show Below w2.heap.size w2 W4 from Y4.out.g)
  go_wp2
  go_loopg [11, 37] l1.length (fun kq v11 v37 w' => ∃ (i b cap : Nat) (xs : List Int), v37 = .int .i64 i ∧ v11 = .slice (some ⟨b, 0, none⟩) xs.length cap ∧ Aside0 (i + kq = l1.length) ∧ Aside0 (xs = changesL a2_0 a2_1 l0 ++ (l1.take i).map (·.f0)) ∧ Aside0 (CS w2 w' w2.heap.size a2_0 a2_1 b cap xs) ∧ Aside0 (Below w2.heap.size w2 w' ∧ w'.heap[g3]? = some (.cells #[.slice A0 l0.length c0] 22 (0, 0)) ∧ w'.heap[g4]? = some (.cells #[.slice A1 l1.length c1] 22 (0, 0))))
  case atStart => exact ⟨0, b, cap, _, rfl, rfl, ⟨(by omega)⟩, ⟨(by simp)⟩, ⟨CS0.out⟩, ⟨HB4.out, Y4.out.b3, Y4.out.b4⟩⟩
  have HL34 := Lib.hid (And.intro Y4.out.l3 Y4.out.l4)
  clear CS0 HB4 Y4 y4
  obtain ⟨i, b, cap, xs, rfl, rfl, HI, HS, HCS, HBW⟩ := hrel
  cases gk with
  | zero => as_aux_lemma =>
    have hi' : i = l1.length := by have := HI.out; omega
    have hlt : decide (i < l1.length) = false := by simp [hi']
    have hlt2 : decide ((i : Int) < (l1.length : Int)) = false := decide_eq_false (by omega)
    have HX := Lib.hid (show xs = changesL a2_0 a2_1 l0 ++ l1.map (·.f0) by
      have := HS.out
      rwa [List.take_of_length_le (by omega)] at this)
    have hxl : xs.length < 1000000 := by
      rw [HX.out, List.length_append, List.length_map]
      have := HP.out
      have := H30.out
      omega
    have hxp : 0 < xs.length := by
      rw [HX.out, List.length_append]
      have := HP.out
      omega
    have H58 := Lib.hid (sort58 b cap xs wr HCS.out.row hxp hxl)
    clear hi' HS
    go_wp2_with fail
    refine (H58.out).mono ?_
    rintro e W1 ⟨rfl, hrow, hgr⟩
    have hsl : (xs.mergeSort fun x y => decide (x ≤ y)).length = xs.length := List.length_mergeSort _
    have HM := Lib.hid (show minutesL a2_0 a2_1 l0 l1 = xs.mergeSort fun x y => decide (x ≤ y) by unfold minutesL; rw [HX.out])
    rw [← HM.out] at hrow hsl
    rw [← hsl]
    have HR := Lib.hid hrow
    have hb5 := HCS.out.ne
    have hbl := HCS.out.le
    have x3 := blk_grown HBW.out.2.1 hgr (by have := HL34.out; simp; omega)
    have x4 := blk_grown HBW.out.2.2 hgr (by have := HL34.out; simp; omega)
    have x5 := blk_grown HCS.out.bx hgr (by simp; omega)
    have x6 := below_grown HBW.out.1 hgr (fun r hr => by simp at hr; omega)
    have Y5 := Lib.hid (show B3 w2 W1 g3 g4 (.slice A0 l0.length c0) (.slice A1 l1.length c1) a2_0 a2_1 from ⟨x3, x4, x5, HL34.out.1, HL34.out.2, x6⟩)
    have HPI := Lib.hid (cheats_lit W1 g4 g3 w2.heap.size A0 A1 c0 c1 l0 l1 a2_0 a2_1 (minutesL a2_0 a2_1 l0 l1) (Kd.C_below HR0.out (below_then HBw.out HBw.out.size x6)) HC.out.1 (Kd.C_below HR1.out (below_then HBw.out HBw.out.size x6)) HC.out.2 x4 x3 x5 (fun m hm => List.all_eq_true.1 HZ.out.1 m hm))
    clear hrow hgr hb5 hbl x3 x4 x5 x6 hsl H58 HM HX
    have HZ2 := Lib.hid HZ.out.2
    have EG := Lib.hid (enters_of (P := Try.prog) Try.func59 (by kernel_rfl) rfl)
    generalize minutesL a2_0 a2_1 l0 l1 = ms at *
    rw [HG5.out] at HPI
    go_wp2_with fail
    refine (IndexIn60 59 _ (cheatP l0 l1 a2_0 a2_1) _ _ ms W1 EG.out HR.out.reads HPI.out).mono ?_
    rintro e W6 ⟨rfl, hb1⟩
    have HB6 := Lib.hid (below_then HBw.out HBw.out.size (below_then Y5.out.g Y5.out.g.size hb1))
    have HR6 := Lib.hid (HR.out.below hb1 HR.out.lt)
    clear hb1 Y5 HCS HBW
    have hz := HZ2.out
    unfold cheatR at hz
    by_cases q4 : idxP (cheatP l0 l1 a2_0 a2_1) ms < 0
    · rw [if_pos q4] at hz
      have t4 : decide (idxP (cheatP l0 l1 a2_0 a2_1) ms < 0) = true := decide_eq_true q4
      injection hz with z1 z2
      subst z1
      subst z2
      generalize idxP (cheatP l0 l1 a2_0 a2_1) ms = ix at *
      go_wp2
      go_ret2
      exact ⟨rfl, HB6.out⟩
    rw [if_neg q4] at hz
    have t4 : decide (idxP (cheatP l0 l1 a2_0 a2_1) ms < 0) = false := decide_eq_false q4
    injection hz with z1 z2
    have hj := idxP_lt (cheatP l0 l1 a2_0 a2_1) ms (by omega)
    obtain ⟨j, ej⟩ : ∃ j : Nat, idxP (cheatP l0 l1 a2_0 a2_1) ms = (j : Int) := ⟨(idxP (cheatP l0 l1 a2_0 a2_1) ms).toNat, (by omega)⟩
    rw [ej] at hj z1 t4 ⊢
    have hj2 : j < ms.length := by omega
    have hj3 : (j : Int) < (ms.length : Int) := hj
    have hcl := HR6.out.cell j hj2
    rw [rd_nat ms j hj2] at z1
    rw [z1] at hcl
    subst z2
    clear q4 ej z1
    go_wp2
    go_ret2
    exact ⟨rfl, HB6.out⟩
  | succ k1 => as_aux_lemma =>
    have hi' : i < l1.length := by have := HI.out; omega
    have hlt : decide (i < l1.length) = true := by simp [hi']
    have hlt2 : decide ((i : Int) < (l1.length : Int)) = true := decide_eq_true (by omega)
    have hC := Kd.C_below HR1.out (below_then HBw.out HBw.out.size HBW.out.1)
    obtain ⟨ad3, e0, hc0, hc1⟩ := at_T54 hC (i : Int) (by omega) (by omega)
    cases e0
    rw [Int.toNat_natCast, rd_T54_nat l1 i hi'] at hc0 hc1
    have hblk := World.block_lt_of_cell? wr _ hc0
    have hblk3 : ¬ (ad3.add (i * 2)).block = wr.heap.size := by omega
    have HS1 := Lib.hid (show xs ++ [l1[i].f0] = changesL a2_0 a2_1 l0 ++ (l1.take (i + 1)).map (·.f0) by
      rw [HS.out, List.take_succ_eq_append_getElem hi', List.map_append, List.append_assoc]
      rfl)
    have HXL := Lib.hid (show 0 < xs.length ∧ xs.length ≤ 1000 by
      rw [HS.out, List.length_append, List.length_map, List.length_take]
      have := HP.out
      have := H30.out
      omega)
    have hi100 : (i : Int) ≤ 100 := by have := H30.out; omega
    clear hC HS
    generalize l1[i] = y at *
    go_upto_region 14 with (fail)
    have B7 := blk_new wr (.cells #[.int .i64 y.f0, .int .i64 y.f1] 54)
    have HB7 := below_alloc (Below.refl wr.heap.size wr) (.cells #[.int .i64 y.f0, .int .i64 y.f1] 54)
    have HCS1 := Lib.hid (HCS.out.below HB7)
    have HBW1 := Lib.hid (show Below w2.heap.size w2 (wr.alloc (.cells #[.int .i64 y.f0, .int .i64 y.f1] 54)) ∧ (wr.alloc (.cells #[.int .i64 y.f0, .int .i64 y.f1] 54)).heap[g3]? = some (.cells #[.slice A0 l0.length c0] 22 (0, 0)) ∧ (wr.alloc (.cells #[.int .i64 y.f0, .int .i64 y.f1] 54)).heap[g4]? = some (.cells #[.slice (some ad3) l1.length c1] 22 (0, 0)) from ⟨below_then HBW.out.1 HBW.out.1.size HB7, blk_alloc HBW.out.2.1 _, blk_alloc HBW.out.2.2 _⟩)
    clear hc0 hc1 hblk hblk3 HB7 HCS HBW
    generalize wr.alloc (.cells #[.int .i64 y.f0, .int .i64 y.f1] 54) = W1 at *
    generalize wr.heap.size = g7 at *
    have e0 : W1.cell? ⟨g7, 0, none⟩ = some (.int .i64 y.f0) := (blk_cell B7 0).trans rfl
    obtain ⟨b', cap', w', hap, hcs, hkeep⟩ := HCS1.out.app HXL.out.1 HXL.out.2 y.f0 rfl
    have HCS4 := Lib.hid hcs
    have HX3 := Lib.hid (hkeep g3 _ (by have := HCS1.out.le; have := HL34.out; omega) HBW1.out.2.1)
    have HX4 := Lib.hid (hkeep g4 _ (by have := HCS1.out.le; have := HL34.out; omega) HBW1.out.2.2)
    clear hcs hkeep
    go_wp2_with ((with_reducible refine gate_builtin (b := .append) (xs := #[.tmp 41, .tmp 44]) rfl ?_); at_builtin; refine append_run rfl (.tmp 41) (.tmp 44) 48 rfl _ _ _ w' rfl rfl hap ?_)
    go_roundg k1
    case rel => exact ⟨i + 1, b', cap', xs ++ [y.f0], (by go_num), (by simp), ⟨b21_⟩, ⟨HS1.out⟩, ⟨HCS4.out⟩, ⟨HCS4.out.g, HX3.out.1, HX4.out.1⟩⟩
    case measure => omega
end Go.Proofs.Ytcgdbjojjpoegaa.P

namespace Go.Proofs.Ytcgdbjojjpoegaa.P
open Go.RowKit Go.Shelf Go.Proofs.YtcgdbjojjpoegaaW.PrintWords Go.Proofs.YtcgdbjojjpoegaaW.PrintLast Go.Proofs.YtcgdbjojjpoegaaW.PrintMore
set_option linter.unusedVariables false
set_option linter.unusedSimpArgs false

theorem cut_full_22 (A : Option Addr) (n cap : Nat) (h2 : n ≤ cap) (W : World) :
    (Instr.slice 22 (.slice A n cap) none (some (.int .i64 (n : Int))) (some (.int .i64 (n : Int)))).run Try.prog W = .ok (.slice A n n) W := by
  obtain ⟨ti, hi, _, hs, _⟩ := info_parts info54
  have hel : Try.prog.elem 22 = 54 := by simp [Program.elem, Try.underlying22]
  have hu : Try.prog.underlying 22 = some (.slice (Try.prog.elem 22)) := by rw [hel]; exact Try.underlying22
  have ha : (A.map fun x => x.add 0) = A := by cases A <;> simp [Addr.add]
  rw [run_slice_hm W 22 A n cap hu .i64 .i64 n n (by omega) (by omega) (by omega), hel]
  simp [sizeOf, typeInfo, hi, sliced, Result.andThen, ha]
theorem m54_any {w w' : World} {base base' : Nat} {ok ok' : Nat → Prop} (x : S54) (c : List Value) (h : k54.M w base ok x c) : k54.M w' base' ok' x c := by
  obtain rfl := k54_openM h
  exact k54_mkM _ _ _ _
/-- 'append(out[:len(out):len(out)], x)': always a new row. -/
theorem grow22 {W : World} {base : Nat} {v : Value} {xs : List S54} (h : Kd.R k54 54 W base (fun _ => True) v xs) (hl : xs.length < 1000000) (x : S54) :
    ∃ A c, v = .slice A xs.length c ∧ xs.length ≤ c ∧ ∃ A' c' w', (∀ ty, (Builtin.append_ #[22, 22] ty #[.slice A xs.length xs.length, .slice (some ⟨W.heap.size, 0, none⟩) 1 1]).run Try.prog (W.alloc (.cells #[.int .i64 x.f0, .int .i64 x.f1] 54)) = .ok (.slice A' (xs.length + 1) c') w') ∧
      Kd.R k54 54 w' W.heap.size (fun _ => True) (.slice A' (xs.length + 1) c') (xs ++ [x]) ∧ W.grownBy w' none := by
  obtain ⟨ti, hi, hz, hs, hby⟩ := info_parts info54
  have hmx : maxLen = 9223372036854775807 := rfl
  have hga : W.grownBy (W.alloc (.cells #[.int .i64 x.f0, .int .i64 x.f1] 54)) none := World.grownBy_alloc _ _ _
  have hnew : ∀ j u, [Value.int .i64 x.f0, Value.int .i64 x.f1][j]? = some u → (W.alloc (.cells #[.int .i64 x.f0, .int .i64 x.f1] 54)).cell? ((⟨W.heap.size, 0, none⟩ : Addr).add j) = some u := by
    intro j u hu
    rw [Addr.add_lit, Nat.zero_add, blk_cell (blk_new W _)]
    rw [← Array.getElem?_toList]
    exact hu
  obtain ⟨h0, inner, ho, hrep⟩ := h
  have fin : ∀ v' w', w'.ownsRow (W.alloc (.cells #[.int .i64 x.f0, .int .i64 x.f1] 54)).heap.size 54 2 v' (xs.length + 1) (inner ++ [.int .i64 x.f0, .int .i64 x.f1]) → ∃ A' c', v' = .slice A' (xs.length + 1) c' ∧ Kd.R k54 54 w' W.heap.size (fun _ => True) v' (xs ++ [x]) := by
    intro v' w' ho'
    obtain ⟨A', c', e, _⟩ := ho'.form (by omega)
    refine ⟨_, _, e, fun _ _ => trivial, inner ++ [.int .i64 x.f0, .int .i64 x.f1], ?_, ?_⟩
    · rw [List.length_append]
      exact own_weaken ho' (by simp)
    · have h2 : Reps (k54.M w' W.heap.size fun k => True ∧ some k ≠ v'.ownBlock) k54.sz xs inner := ⟨hrep.1, fun j p hp => m54_any p _ (hrep.2 j p hp)⟩
      exact h2.snoc (k54_mkM _ _ _ _) rfl
  rcases ho.2 with ⟨hv, hn0⟩ | ⟨g, cap, cur, hv, hg, hh, hle, hcm, hsz, ht⟩
  · have hx0 : xs = [] := List.length_eq_zero_iff.1 (by first | exact hn0 | exact hn0.1)
    subst hx0
    have hin : inner = [] := List.length_eq_zero_iff.1 (by have := ho.1; simpa using this)
    subst hin
    subst hv
    refine ⟨none, 0, rfl, Nat.le_refl _, ?_⟩
    obtain ⟨v', w', h1, h2, h3, _⟩ := run_append_own (P := Try.prog) (w := W.alloc (.cells #[.int .i64 x.f0, .int .i64 x.f1] 54)) (W.alloc (.cells #[.int .i64 x.f0, .int .i64 x.f1] 54)).heap.size 22 22 54 ti _ 2 16 Try.underlying22 hi hz hs hby rfl (by decide) (.slice none 0 0) 0 [] (own_nil _ _ _ _) ⟨W.heap.size, 0, none⟩ 1 1 [.int .i64 x.f0, .int .i64 x.f1] rfl hnew (by simp [Value.oneCell']) (by omega) (by omega) (Nat.le_refl _)
    obtain ⟨A', c', rfl, hR⟩ := fin v' w' h2
    exact ⟨A', c', w', fun ty => h1, hR, hga.trans h3⟩
  · subst hv
    refine ⟨some ⟨g, 0, none⟩, cap, rfl, hle, ?_⟩
    have hh1 := blk_grown hh hga (by simp)
    obtain ⟨v', w', h1, h2, h3⟩ := run_append_arg_grows (P := Try.prog) (W.alloc (.cells #[.int .i64 x.f0, .int .i64 x.f1] 54)) 22 22 54 ti _ 2 16 Try.underlying22 hi hz hs hby rfl (by decide) ⟨g, 0, none⟩ xs.length xs.length inner ho.1
      (fun j u hu => by
        have hj : j < inner.length := (List.getElem?_eq_some_iff.1 hu).1
        rw [Addr.add_lit, Nat.zero_add, blk_cell hh1, ← Array.getElem?_toList]
        rw [← ht, List.getElem?_take_of_lt (by rw [← ho.1]; exact hj)] at hu
        exact hu) ⟨W.heap.size, 0, none⟩ 1 1 [.int .i64 x.f0, .int .i64 x.f1] rfl hnew (by omega) (by omega) (by omega)
    obtain ⟨A', c', rfl, hR⟩ := fin v' w' h2
    exact ⟨A', c', w', fun ty => h1, hR, hga.trans h3⟩
def highStep (out : List S54) (p : S54) : List S54 := if out.length = 0 ∨ (rd_T54 out ((out.length : Int) - 1)).f1 ≠ p.f1 then out ++ [p] else out
def highO (l : List S54) (lo hi : Int) : List Int → List S54 → Option (List S54)
  | [], out => some out
  | m :: ms, out => (pole_fair.f l lo hi m).bind fun c => highO l lo hi ms (highStep out ⟨m, c⟩)
def pole_Highest.f (l0 : List S54) (a1_0 a1_1 : Int) : Option (List S54 × Int) :=
  (pole_checkClocks.f l0 a1_0 a1_1).bind fun e => if e = 0 then (highO l0 a1_0 a1_1 (changesL a1_0 a1_1 l0) []).bind fun out => some (out, 0) else some ([], e)
theorem checkClocks_len {l : List S54} {lo hi : Int} (h : pole_checkClocks.f l lo hi = some 0) : 0 < l.length ∧ l.length ≤ 30 := by
  unfold pole_checkClocks.f pole_CheckSign.f at h
  rw [Option.bind_some] at h
  split at h
  · rename_i h0
    exact signE_len h0
  injection h with h
  contradiction
def high24.T10 : Bool × List (List Nat × List Nat) := (true, [([], []), ([], []), ([1], [1]), ([], []), ([3], [3]), ([0, 2, 4], [0, 2, 4]), ([], []), ([6], [6]), ([5, 7], [5, 7]), ([8, 8, 0, 1, 2, 3, 4, 5, 6, 7, 8], [0, 1, 3, 8])])
def high24.B10 : List Nat := [0, 0, 2, 0, 8, 31, 0, 64, 255, 511]
theorem high24.tab10 : rtab .any (opsOf Try.f24 10) = high24.T10 := by kernel_rfl
theorem high24.bits10 : waitsOk high24.T10.2 high24.B10 = true := by kernel_rfl
set_option maxHeartbeats 4000000 in
set_option maxRecDepth 100000 in
theorem pole_Highest.calls (A0 : Option Addr) (c0 : Nat) (l0 : List S54) (a1_0 a1_1 : Int) (r1 : List S54) (r2 : Int) (w : World) (hr0 : Kd.C k54 w A0 l0.length l0) (hc0 : l0.length ≤ c0) (h : pole_Highest.f l0 a1_0 a1_1 = some (r1, r2)) :
    Calls Try.prog 24 #[.slice A0 l0.length c0, .agg #[.int .i64 a1_0, .int .i64 a1_1]] w fun e w' => ∃ v0_ : Value, e = .returned (.tuple #[v0_, .int .i64 r2]) ∧ Kd.R k54 54 w' w.heap.size (fun _ => True) v0_ r1 ∧ Below w.heap.size w w' := by
  unfold pole_Highest.f at h
  rw [Option.bind_eq_some_iff] at h
  obtain ⟨E, he, h⟩ := h
  have HR0 := Lib.hid hr0
  have HC := Lib.hid hc0
  have HE := Lib.hid he
  have HH := Lib.hid h
  have BX := blk_new w (.cells #[.int .i64 a1_0, .int .i64 a1_1] 24)
  have HB := Lib.hid (box1 w (.cells #[.int .i64 a1_0, .int .i64 a1_1] 24))
  clear hr0 hc0 h he
  go_enter Try.func24, Try.ntmps24
  go_upto_region 1 with (fail)
  generalize w.alloc (.cells #[.int .i64 a1_0, .int .i64 a1_1] 24) = W0 at *
  obtain ⟨gb, egb⟩ : ∃ g, w.heap.size = g := ⟨_, rfl⟩
  rw [egb] at BX ⊢
  have y0 : W0.cell? ⟨gb, 0, none⟩ = some (.int .i64 a1_0) := (blk_cell BX 0).trans rfl
  have y1 : W0.cell? ⟨gb, 1, none⟩ = some (.int .i64 a1_1) := (blk_cell BX 1).trans rfl
  go_wp2_with fail
  refine (pole_checkClocks.calls A0 c0 l0 a1_0 a1_1 E W0 (Kd.C_below HR0.out HB.out) HC.out HE.out).mono ?_
  rintro e W1 ⟨rfl, hb1⟩
  have BX1 := Lib.hid (blk_below BX hb1)
  have HB1 := Lib.hid (below_then HB.out HB.out.size hb1)
  have EG := Lib.hid egb
  clear y0 y1 BX HB hb1 egb
  by_cases q1 : E = 0
  rotate_left
  · have t1 : (E != 0) = true := by simp [q1]
    have hz : [] = r1 ∧ E = r2 := by
      have := HH.out
      rw [if_neg q1] at this
      injection this with h2
      injection h2 with h2 h3
      exact ⟨h2, h3⟩
    obtain ⟨rfl, rfl⟩ := hz
    clear HH HE q1
    go_wp2
    go_ret2
    exact ⟨_, rfl, Kd.R_nil _ _ _ _ _, HB1.out⟩
  have t1 : (E != 0) = false := by simp [q1]
  subst q1
  obtain ⟨out, eo, hz⟩ : ∃ out, highO l0 a1_0 a1_1 (changesL a1_0 a1_1 l0) [] = some out ∧ out = r1 ∧ (0 : Int) = r2 := by
    have := HH.out
    rw [if_pos rfl, Option.bind_eq_some_iff] at this
    obtain ⟨out, h1, h2⟩ := this
    injection h2 with h2
    injection h2 with h2 h3
    exact ⟨out, h1, h2, h3⟩
  obtain ⟨rfl, rfl⟩ := hz
  have HO := Lib.hid eo
  have HLN := Lib.hid (checkClocks_len HE.out)
  clear eo HH HE t1
  have y0 : W1.cell? ⟨gb, 0, none⟩ = some (.int .i64 a1_0) := (blk_cell BX1.out 0).trans rfl
  have y1 : W1.cell? ⟨gb, 1, none⟩ = some (.int .i64 a1_1) := (blk_cell BX1.out 1).trans rfl
  go_wp2_with fail
  refine (changes_calls A0 c0 l0 a1_0 a1_1 W1 (Kd.C_below HR0.out HB1.out) HC.out HLN.out.1 (by have := HLN.out.2; omega)).mono ?_
  rintro e W2 ⟨b, cap, rfl, hrow, hbase, hb1⟩
  have BX2 := Lib.hid (blk_below BX1.out hb1)
  have HB2 := Lib.hid (below_then HB1.out HB1.out.size hb1)
  have HRW := Lib.hid hrow
  have HML := Lib.hid (show (changesL a1_0 a1_1 l0).length ≤ 61 by have := changesL_len a1_0 a1_1 l0; have := HLN.out; omega)
  clear y0 y1 hrow hb1 BX1 HB1 hbase
  generalize changesL a1_0 a1_1 l0 = ms at *
  go_wp2
  go_loopg [7, 21] ms.length (fun kq v7 v21 w' => ∃ (i : Nat) (xs : List S54) (A : Option Addr) (c : Nat), v21 = .int .i64 i ∧ v7 = .slice A xs.length c ∧ Aside0 (i + kq = ms.length) ∧ Aside0 (highO l0 a1_0 a1_1 (ms.drop i) xs = some out ∧ xs.length ≤ i) ∧ Aside0 (Kd.R k54 54 w' w.heap.size (fun _ => True) (.slice A xs.length c) xs) ∧ Aside0 (RowC w' b 2 cap ms ∧ w'.heap[gb]? = some (.cells #[.int .i64 a1_0, .int .i64 a1_1] 24 (0, 0)) ∧ Below w.heap.size w w'))
  case atStart => exact ⟨0, [], none, 0, rfl, rfl, ⟨(by omega)⟩, ⟨HO.out, Nat.le_refl _⟩, ⟨Kd.R_nil _ _ _ _ _⟩, ⟨HRW.out, BX2.out, HB2.out⟩⟩
  clear HO HRW BX2 HB2
  obtain ⟨i, xs, A, c, rfl, rfl, HI, HO, HX, HW⟩ := hrel
  cases gk with
  | zero => as_aux_lemma =>
    have hi' : i = ms.length := by have := HI.out; omega
    have hlt : decide (i < ms.length) = false := by simp [hi']
    have hlt2 : decide ((i : Int) < (ms.length : Int)) = false := decide_eq_false (by omega)
    have HF := Lib.hid (show xs = out by
      have := HO.out.1
      rw [List.drop_of_length_le (by omega)] at this
      exact Option.some.inj this)
    clear hi' HO
    go_wp2
    go_ret2
    exact ⟨_, rfl, (by rw [← HF.out]; exact HX.out), HW.out.2.2⟩
  | succ k1 => as_aux_lemma =>
    have hi' : i < ms.length := by have := HI.out; omega
    have hlt : decide (i < ms.length) = true := by simp [hi']
    have hlt2 : decide ((i : Int) < (ms.length : Int)) = true := decide_eq_true (by omega)
    have hi3 : (i : Int) < (ms.length : Int) := by omega
    have hcm := HW.out.1.cell i hi'
    obtain ⟨f, hf, hn⟩ : ∃ f, pole_fair.f l0 a1_0 a1_1 ms[i] = some f ∧ highO l0 a1_0 a1_1 (ms.drop (i + 1)) (highStep xs ⟨ms[i], f⟩) = some out := by
      have := HO.out.1
      rw [List.drop_eq_getElem_cons hi', highO, Option.bind_eq_some_iff] at this
      exact this
    have HF := Lib.hid hf
    have HN := Lib.hid hn
    have HXL := Lib.hid HO.out.2
    have hi100 : (i : Int) ≤ 100 := by have := HML.out; omega
    clear hf hn HO
    generalize ms[i] = m at *
    have y0 : wr.cell? ⟨gb, 0, none⟩ = some (.int .i64 a1_0) := (blk_cell HW.out.2.1 0).trans rfl
    have y1 : wr.cell? ⟨gb, 1, none⟩ = some (.int .i64 a1_1) := (blk_cell HW.out.2.1 1).trans rfl
    go_wp2_with fail
    refine (pole_fair.calls A0 c0 l0 a1_0 a1_1 m f wr (Kd.C_below HR0.out HW.out.2.2) HC.out HF.out).mono ?_
    rintro e W3 ⟨rfl, hb1⟩
    have HX3 := Lib.hid (Kd.R_below HX.out hb1)
    have HW3 := Lib.hid (show RowC W3 b 2 cap ms ∧ W3.heap[gb]? = some (.cells #[.int .i64 a1_0, .int .i64 a1_1] 24 (0, 0)) ∧ Below w.heap.size w W3 from ⟨HW.out.1.below hb1 HW.out.1.lt, blk_below HW.out.2.1 hb1, below_then HW.out.2.2 HW.out.2.2.size hb1⟩)
    clear hb1 HX HW y0 y1 hcm
    go_upto_region 9 with (fail)
    have BT := Lib.hid (blk_new W3 (.cells #[.int .i64 m, .int .i64 f] 54))
    have hbt := below_alloc (Below.refl W3.heap.size W3) (.cells #[.int .i64 m, .int .i64 f] 54)
    have HX4 := Lib.hid (Kd.R_below HX3.out hbt)
    have HW4 := Lib.hid (show RowC (W3.alloc (.cells #[.int .i64 m, .int .i64 f] 54)) b 2 cap ms ∧ (W3.alloc (.cells #[.int .i64 m, .int .i64 f] 54)).heap[gb]? = some (.cells #[.int .i64 a1_0, .int .i64 a1_1] 24 (0, 0)) ∧ Below w.heap.size w (W3.alloc (.cells #[.int .i64 m, .int .i64 f] 54)) from ⟨HW3.out.1.below hbt HW3.out.1.lt, blk_below HW3.out.2.1 hbt, below_then HW3.out.2.2 HW3.out.2.2.size hbt⟩)
    clear hbt HX3 HW3
    generalize W3.alloc (.cells #[.int .i64 m, .int .i64 f] 54) = W4 at *
    generalize W3.heap.size = g10 at *
    have z1 : W4.cell? ⟨g10, 1, none⟩ = some (.int .i64 f) := (blk_cell BT.out 1).trans rfl
    by_cases q2 : xs.length = 0
    · have u1 : (xs.length == 0) = true := by simp [q2]
      have u2 : ((xs.length : Int) == 0) = true := by simp [q2]
      have HS := Lib.hid (show highStep xs ⟨m, f⟩ = xs ++ [⟨m, f⟩] by unfold highStep; rw [if_pos (.inl q2)])
      clear q2
      go_quiet (fail)
      have hb5 := drawn_below (W := W4) (W' := W4.drewN nq) ⟨nq, rfl⟩
      have HX5 := Lib.hid (Kd.R_below HX4.out hb5)
      have HW5 := Lib.hid (show RowC (W4.drewN nq) b 2 cap ms ∧ (W4.drewN nq).heap[gb]? = some (.cells #[.int .i64 a1_0, .int .i64 a1_1] 24 (0, 0)) ∧ Below w.heap.size w (W4.drewN nq) from ⟨HW4.out.1.below hb5 HW4.out.1.lt, blk_below HW4.out.2.1 hb5, below_then HW4.out.2.2 HW4.out.2.2.size hb5⟩)
      have BT5 := Lib.hid (blk_below BT.out hb5)
      clear hb5 z1 HX4 HW4 BT
      generalize W4.drewN nq = W5 at *
      go_upto_region 10 with (fail)
      obtain ⟨Wd, ed⟩ : ∃ Wd, W5.drew = Wd := ⟨_, rfl⟩
      have hd : Below W5.heap.size W5 Wd := by rw [← ed]; exact below_drew (Below.refl _ _)
      have hRd := Kd.R_below HX5.out hd
      obtain ⟨A1, c1, eA, hle1, A', c', w', hap, hR', hgr⟩ := grow22 hRd (by have := HXL.out; omega) ⟨m, f⟩
      have hcut := cut_full_22 A1 xs.length c1 hle1
      injection eA with e1 e2 e3
      subst e1
      subst e3
      have HTd := blk_below BT5.out hd
      have hAl := below_alloc (Below.refl Wd.heap.size Wd) (.cells #[.int .i64 m, .int .i64 f] 54)
      have z0 : Wd.cell? ⟨g10, 0, none⟩ = some (.int .i64 m) := (blk_cell HTd 0).trans rfl
      have z1 : Wd.cell? ⟨g10, 1, none⟩ = some (.int .i64 f) := (blk_cell HTd 1).trans rfl
      have HT1 := blk_alloc HTd (.cells #[.int .i64 m, .int .i64 f] 54)
      have HT2 : w'.heap[g10]? = some (.cells #[.int .i64 m, .int .i64 f] 54 (0, 0)) := by
        have hlt := blk_lt HTd
        exact (hgr.block g10 hlt (by simp)).trans HTd
      have HRR := Lib.hid (Kd.R_lower hR' (show w.heap.size ≤ Wd.heap.size by have := HW5.out.2.2.size; have := hd.size; omega))
      have HWW := Lib.hid (show RowC w' b 2 cap ms ∧ w'.heap[gb]? = some (.cells #[.int .i64 a1_0, .int .i64 a1_1] 24 (0, 0)) ∧ Below w.heap.size w w' from
        have hz := below_then hd hd.size (below_grown (Below.refl Wd.heap.size Wd) hgr (fun r hr => by simp at hr))
        ⟨HW5.out.1.below hz HW5.out.1.lt, blk_below HW5.out.2.1 hz, below_then HW5.out.2.2 HW5.out.2.2.size hz⟩)
      have HAP := Lib.hid hap
      clear hR' hgr hap hRd
      refine sA_ 10 (fun w' => w'.cell? ⟨g10, 0, none⟩ = some (.int .i64 m) ∧ w'.cell? ⟨g10, 1, none⟩ = some (.int .i64 f)) [] high24.tab10 high24.bits10 (by rw [ed]; exact ⟨z0, z1⟩) (fun hHeld HT_ HW_ => ?_)
      rw [ed] at hHeld ⊢
      refine pA_ 0 (some 46) 10 1 ?_
      refine pA_ 1 (some 47) 10 3 ?_
      refine pA_ 2 (some 48) 10 7 ?_
      refine pA_ 3 (some 49) 10 15 ?_
      refine pA_ 4 (some 50) 10 31 ?_
      refine pA_ 5 (some 51) 10 63 ?_
      refine tB_ 6 (some 52) 10 127 ?_
      refine oA_ 7 (some 53) 10 255 (fun K hK => ?_)
      refine event_step (by rfl) (w1 := Wd.alloc (.cells #[.int .i64 m, .int .i64 f] 54)) (v := .slice (some ⟨Wd.heap.size, 0, none⟩) 1 1) (by go_simp) ?_
      refine hK.out _ _ ⟨cell_in hAl z0, cell_in hAl z1⟩ (fun hHeld => ?_)
      clear hK K
      refine nA_ (some 53) ?_
      refine oA_ 8 (some 54) 10 511 (fun K hK => ?_)
      refine append_step (by rfl) (.tmp 51) (.tmp 53) 22 rfl _ _ _ w' rfl rfl HAP.out ?_
      refine hK.out _ _ ⟨(blk_cell HT2 0).trans rfl, (blk_cell HT2 1).trans rfl⟩ (fun hHeld => ?_)
      clear hK K
      refine nA_ (some 54) ?_
      refine pA_ 9 (some 7) 10 1023 ?_
      refine dA_ ?_
      clear hHeld HT_ HW_ hcut z0 z1 hAl HT1 HT2 HTd hd ed
      go_wp2
      go_roundg k1
      case rel => exact ⟨i + 1, xs ++ [⟨m, f⟩], A', c', (by go_num), (by simp), ⟨b21_⟩, ⟨(by rw [← HS.out]; exact HN.out), (by have := HXL.out; simp; omega)⟩, ⟨(by rw [List.length_append]; exact HRR.out)⟩, ⟨HWW.out⟩⟩
      case measure => omega
    have u1 : (xs.length == 0) = false := by simp [q2]
    have u2 : ((xs.length : Int) == 0) = false := beq_eq_false_iff_ne.mpr (by omega)
    obtain ⟨A2, c2, e2, hle2, hC⟩ := Kd.R_reads HX4.out
    injection e2 with e21 e22 e23
    subst e21
    subst e23
    obtain ⟨k, ek⟩ : ∃ k : Nat, (xs.length : Int) - 1 = (k : Int) := ⟨xs.length - 1, (by omega)⟩
    obtain ⟨ad, eA, _, hl1⟩ := at_T54 hC (k : Int) (by omega) (by omega)
    subst eA
    rw [Int.toNat_natCast] at hl1
    have hk3 : (k : Int) < (xs.length : Int) := by omega
    have hk4 : (k : Int) ≤ 100 := by have := HXL.out; have := HML.out; omega
    have hwr : wrap64 ((xs.length : Int) - 1) = (k : Int) := by rw [ek]; unfold wrap64; omega
    by_cases q3 : (rd_T54 xs (k : Int)).f1 = f
    · have u3 : ((rd_T54 xs (k : Int)).f1 != f) = false := by simp [q3]
      have HS := Lib.hid (show highStep xs ⟨m, f⟩ = xs by unfold highStep; rw [ek, if_neg (by rintro (h | h); exact q2 h; exact h q3)])
      rw [HS.out] at HN
      clear q2 q3 hC ek
      generalize (rd_T54 xs (k : Int)).f1 = x1 at *
      go_quiet (fail)
      have hb5 := drawn_below (W := W4) (W' := W4.drewN nq) ⟨nq, rfl⟩
      have HX5 := Lib.hid (Kd.R_below HX4.out hb5)
      have HW5 := Lib.hid (show RowC (W4.drewN nq) b 2 cap ms ∧ (W4.drewN nq).heap[gb]? = some (.cells #[.int .i64 a1_0, .int .i64 a1_1] 24 (0, 0)) ∧ Below w.heap.size w (W4.drewN nq) from ⟨HW4.out.1.below hb5 HW4.out.1.lt, blk_below HW4.out.2.1 hb5, below_then HW4.out.2.2 HW4.out.2.2.size hb5⟩)
      clear hb5 z1 HX4 HW4 BT
      go_wp2
      go_roundg k1
      case rel => exact ⟨i + 1, xs, _, _, (by go_num), rfl, ⟨b21_⟩, ⟨HN.out, (by have := HXL.out; omega)⟩, ⟨HX5.out⟩, ⟨HW5.out⟩⟩
      case measure => omega
    have u3 : ((rd_T54 xs (k : Int)).f1 != f) = true := by simp [q3]
    have HS := Lib.hid (show highStep xs ⟨m, f⟩ = xs ++ [⟨m, f⟩] by unfold highStep; rw [ek, if_pos (.inr q3)])
    clear q2 q3 hC ek
    generalize (rd_T54 xs (k : Int)).f1 = x1 at *
    go_quiet (fail)
    have hb5 := drawn_below (W := W4) (W' := W4.drewN nq) ⟨nq, rfl⟩
    have HX5 := Lib.hid (Kd.R_below HX4.out hb5)
    have HW5 := Lib.hid (show RowC (W4.drewN nq) b 2 cap ms ∧ (W4.drewN nq).heap[gb]? = some (.cells #[.int .i64 a1_0, .int .i64 a1_1] 24 (0, 0)) ∧ Below w.heap.size w (W4.drewN nq) from ⟨HW4.out.1.below hb5 HW4.out.1.lt, blk_below HW4.out.2.1 hb5, below_then HW4.out.2.2 HW4.out.2.2.size hb5⟩)
    have BT5 := Lib.hid (blk_below BT.out hb5)
    clear hb5 z1 HX4 HW4 BT
    generalize W4.drewN nq = W5 at *
    go_upto_region 10 with (fail)
    obtain ⟨Wd, ed⟩ : ∃ Wd, W5.drew = Wd := ⟨_, rfl⟩
    have hd : Below W5.heap.size W5 Wd := by rw [← ed]; exact below_drew (Below.refl _ _)
    have hRd := Kd.R_below HX5.out hd
    obtain ⟨A1, c1, eA, hle1, A', c', w', hap, hR', hgr⟩ := grow22 hRd (by have := HXL.out; omega) ⟨m, f⟩
    have hcut := cut_full_22 A1 xs.length c1 hle1
    injection eA with e1 e2 e3
    subst e1
    subst e3
    have HTd := blk_below BT5.out hd
    have hAl := below_alloc (Below.refl Wd.heap.size Wd) (.cells #[.int .i64 m, .int .i64 f] 54)
    have z0 : Wd.cell? ⟨g10, 0, none⟩ = some (.int .i64 m) := (blk_cell HTd 0).trans rfl
    have z1 : Wd.cell? ⟨g10, 1, none⟩ = some (.int .i64 f) := (blk_cell HTd 1).trans rfl
    have HT1 := blk_alloc HTd (.cells #[.int .i64 m, .int .i64 f] 54)
    have HT2 : w'.heap[g10]? = some (.cells #[.int .i64 m, .int .i64 f] 54 (0, 0)) := by
      have hlt := blk_lt HTd
      exact (hgr.block g10 hlt (by simp)).trans HTd
    have HRR := Lib.hid (Kd.R_lower hR' (show w.heap.size ≤ Wd.heap.size by have := HW5.out.2.2.size; have := hd.size; omega))
    have HWW := Lib.hid (show RowC w' b 2 cap ms ∧ w'.heap[gb]? = some (.cells #[.int .i64 a1_0, .int .i64 a1_1] 24 (0, 0)) ∧ Below w.heap.size w w' from
      have hz := below_then hd hd.size (below_grown (Below.refl Wd.heap.size Wd) hgr (fun r hr => by simp at hr))
      ⟨HW5.out.1.below hz HW5.out.1.lt, blk_below HW5.out.2.1 hz, below_then HW5.out.2.2 HW5.out.2.2.size hz⟩)
    have HAP := Lib.hid hap
    clear hR' hgr hap hRd
    refine sA_ 10 (fun w' => w'.cell? ⟨g10, 0, none⟩ = some (.int .i64 m) ∧ w'.cell? ⟨g10, 1, none⟩ = some (.int .i64 f)) [] high24.tab10 high24.bits10 (by rw [ed]; exact ⟨z0, z1⟩) (fun hHeld HT_ HW_ => ?_)
    rw [ed] at hHeld ⊢
    refine pA_ 0 (some 46) 10 1 ?_
    refine pA_ 1 (some 47) 10 3 ?_
    refine pA_ 2 (some 48) 10 7 ?_
    refine pA_ 3 (some 49) 10 15 ?_
    refine pA_ 4 (some 50) 10 31 ?_
    refine pA_ 5 (some 51) 10 63 ?_
    refine tB_ 6 (some 52) 10 127 ?_
    refine oA_ 7 (some 53) 10 255 (fun K hK => ?_)
    refine event_step (by rfl) (w1 := Wd.alloc (.cells #[.int .i64 m, .int .i64 f] 54)) (v := .slice (some ⟨Wd.heap.size, 0, none⟩) 1 1) (by go_simp) ?_
    refine hK.out _ _ ⟨cell_in hAl z0, cell_in hAl z1⟩ (fun hHeld => ?_)
    clear hK K
    refine nA_ (some 53) ?_
    refine oA_ 8 (some 54) 10 511 (fun K hK => ?_)
    refine append_step (by rfl) (.tmp 51) (.tmp 53) 22 rfl _ _ _ w' rfl rfl HAP.out ?_
    refine hK.out _ _ ⟨(blk_cell HT2 0).trans rfl, (blk_cell HT2 1).trans rfl⟩ (fun hHeld => ?_)
    clear hK K
    refine nA_ (some 54) ?_
    refine pA_ 9 (some 7) 10 1023 ?_
    refine dA_ ?_
    clear hHeld HT_ HW_ hcut z0 z1 hAl HT1 HT2 HTd hd ed
    go_wp2
    go_roundg k1
    case rel => exact ⟨i + 1, xs ++ [⟨m, f⟩], A', c', (by go_num), (by simp), ⟨b21_⟩, ⟨(by rw [← HS.out]; exact HN.out), (by have := HXL.out; simp; omega)⟩, ⟨(by rw [List.length_append]; exact HRR.out)⟩, ⟨HWW.out⟩⟩
    case measure => omega
end Go.Proofs.Ytcgdbjojjpoegaa.P

namespace Go.Proofs.Ytcgdbjojjpoegaa.P
open Go.RowKit Go.Proofs.YtcgdbjojjpoegaaW.PrintWords Go.Proofs.YtcgdbjojjpoegaaW.PrintLast Go.Proofs.YtcgdbjojjpoegaaW.PrintMore
set_option linter.unusedVariables false
set_option linter.unusedSimpArgs false

/-! steps of a way -/
theorem info117 : (Try.prog.info? 117).map (fun i => (i.zero, i.size, i.bytes)) = some (some (.agg #[(.int .i64 0), (.int .i64 0), (.int .i64 0)]), 3, 24) := by kernel_rfl
structure S117 where
  f0 : Int
  f1 : Int
  f2 : Int
deriving DecidableEq
def z117 : S117 := ⟨0, 0, 0⟩
def enc117 (x : S117) : Value := .agg #[.int .i64 x.f0, .int .i64 x.f1, .int .i64 x.f2]
def k117 : Kd S117 := Kd.iso (Kd.pair (Kd.int .i64) (Kd.pair (Kd.int .i64) (Kd.int .i64))) (fun x : S117 => (x.f0, (x.f1, x.f2)))
theorem k117_open {w : World} {x : S117} {cs : List Value} (h : k117.K w x cs) : cs = [.int .i64 x.f0, .int .i64 x.f1, .int .i64 x.f2] := by
  obtain ⟨_, _, rfl, rfl, ⟨_, _, rfl, rfl, rfl⟩⟩ := h
  exact rfl
theorem k117_openM {w : World} {base : Nat} {ok : Nat → Prop} {x : S117} {cs : List Value} (h : k117.M w base ok x cs) : cs = [.int .i64 x.f0, .int .i64 x.f1, .int .i64 x.f2] := by
  obtain ⟨_, _, rfl, rfl, ⟨_, _, rfl, rfl, rfl⟩⟩ := h
  exact rfl
theorem k117_mk (w : World) (x : S117)  : k117.K w x [.int .i64 x.f0, .int .i64 x.f1, .int .i64 x.f2] := ⟨[.int .i64 x.f0], [.int .i64 x.f1, .int .i64 x.f2], rfl, rfl, ⟨[.int .i64 x.f1], [.int .i64 x.f2], rfl, rfl, rfl⟩⟩
theorem k117_mkM (w : World) (base : Nat) (ok : Nat → Prop) (x : S117)  : k117.M w base ok x [.int .i64 x.f0, .int .i64 x.f1, .int .i64 x.f2] := ⟨[.int .i64 x.f0], [.int .i64 x.f1, .int .i64 x.f2], rfl, rfl, ⟨[.int .i64 x.f1], [.int .i64 x.f2], rfl, rfl, rfl⟩⟩
def rd_T117 (xs : List S117) (i : Int) : S117 := xs.getD i.toNat z117
theorem rd_T117_nat (l : List S117) (i : Nat) (hi : i < l.length) : rd_T117 l (i : Int) = l[i] := by
  simp [rd_T117, List.getD_eq_getElem?_getD, List.getElem?_eq_getElem hi]
theorem at_T117 {w : World} {A : Option Addr} {n : Nat} {xs : List S117} (h : Kd.C k117 w A n xs) (i : Int) (h0 : 0 ≤ i) (h1 : i < n) : ∃ ad , A = some ad ∧ w.cell? (ad.add (i.toNat * 3)) = some (.int .i64 (rd_T117 xs i).f0) ∧ w.cell? ⟨(ad.add (i.toNat * 3)).block, (ad.add (i.toNat * 3)).off + 1, none⟩ = some (.int .i64 (rd_T117 xs i).f1) ∧ w.cell? ⟨(ad.add (i.toNat * 3)).block, (ad.add (i.toNat * 3)).off + 2, none⟩ = some (.int .i64 (rd_T117 xs i).f2) := by
  obtain ⟨ad, c, e, _, hK, hc0⟩ := Kd.C_get h z117 i h0 h1
  have hc : ∀ j u, c[j]? = some u → w.cell? (ad.add (i.toNat * 3 + j)) = some u := hc0
  obtain rfl := k117_open hK
  exact ⟨ad, e, hc 0 _ rfl, (by rw [← add_field _ _ 1 (by omega)]; exact hc 1 _ rfl), (by rw [← add_field _ _ 2 (by omega)]; exact hc 2 _ rfl)⟩
/-- l[1:], whatever its address. -/
theorem cut1_117 {W : World} {ad : Addr} {c : Nat} {l : List S117} (h : Kd.C k117 W (some ad) l.length l) (hp : 0 < l.length) (hc : l.length ≤ c) : ∃ ad2, (c = 1 ∧ ad2 = ad ∨ ¬ c = 1 ∧ ad.add 3 = ad2) ∧ Kd.C k117 W (some ad2) (l.length - 1) (l.drop 1) := by
  have := Kd.C_drop (m := 1) h (by omega) hc
  rw [List.length_drop] at this
  by_cases e : c = 1
  · rw [if_pos e] at this
    exact ⟨ad, .inl ⟨e, rfl⟩, this⟩
  rw [if_neg e] at this
  exact ⟨ad.add 3, .inr ⟨e, rfl⟩, this⟩
def minB (p : S117 → Int) (b y : S117) : S117 := if p y < p b then y else b
/-- the step with the least number, the first one of several -/
def leastB (p : S117 → Int) : List S117 → S117
  | [] => z117
  | x :: l => l.foldl (minB p) x
theorem minB_mem (p : S117 → Int) : ∀ (l : List S117) (x : S117), l.foldl (minB p) x ∈ x :: l
  | [], x => by simp
  | y :: l, x => by
    have := minB_mem p l (minB p x y)
    rw [List.foldl_cons]
    unfold minB at this ⊢
    split at this
    · rename_i h
      rw [if_pos h]
      exact List.mem_cons_of_mem _ this
    · rename_i h
      rw [if_neg h]
      rcases List.mem_cons.1 this with h1 | h1
      · rw [h1]
        exact List.mem_cons_self
      · exact List.mem_cons_of_mem _ (List.mem_cons_of_mem _ h1)
theorem leastB_mem (p : S117 → Int) (l : List S117) (h : 0 < l.length) : leastB p l ∈ l := by
  cases l with
  | nil => simp at h
  | cons x l => exact minB_mem p l x
/-- What is asked of a function value that gives the number of a step of a list. -/
def PredT (g : Nat) (lb : Array Value) (p : S117 → Int) (l : List S117) (w : World) : Prop :=
  ∀ (W : World) (x : S117), x ∈ l → Below w.heap.size w W → Calls Try.prog g (#[enc117 x] ++ lb) W fun e w' => e = .returned (.int .i64 (p x)) ∧ Below W.heap.size W w'
theorem PredT.below {g : Nat} {lb : Array Value} {p : S117 → Int} {l : List S117} {w w1 : World} (h : PredT g lb p l w) (hb : Below w.heap.size w w1) : PredT g lb p l w1 :=
  fun W x hx hW => h W x hx (below_then hb hb.size hW)
theorem take_mem (p : S117 → Int) (x : S117) (l : List S117) (i : Nat) : (l.take i).foldl (minB p) x ∈ x :: l := by
  have := minB_mem p (l.take i) x
  rcases List.mem_cons.1 this with h | h
  · rw [h]
    exact List.mem_cons_self
  exact List.mem_cons_of_mem _ (List.mem_of_mem_take h)
def least89T.T5 : Bool × List (List Nat × List Nat) := (true, [([], []), ([], []), ([0, 1], [0, 1]), ([], []), ([], []), ([3, 4, 2], [3, 4]), ([2, 5], [2, 5])])
def least89T.B5 : List Nat := [0, 0, 3, 0, 0, 31, 63]
theorem least89T.tab5 : rtab .any (opsOf Try.f89 5) = least89T.T5 := by kernel_rfl
theorem least89T.bits5 : waitsOk least89T.T5.2 least89T.B5 = true := by kernel_rfl
set_option maxHeartbeats 2000000 in
set_option maxRecDepth 100000 in
theorem least89_calls (g : Nat) (lb : Array Value) (p : S117 → Int) (A : Option Addr) (c : Nat) (l : List S117) (w : World) (EG : ∀ args w, (callFunc g args).run Try.prog w = .ok (.enter g args) w) (hr : Kd.C k117 w A l.length l) (hc : l.length ≤ c) (hp : 0 < l.length) (hpr : PredT g lb p l w) :
    Calls Try.prog 89 #[.slice A l.length c, .func (.func g) #[] lb] w fun e w' => e = .returned (enc117 (leastB p l)) ∧ Below w.heap.size w w' := by
  obtain ⟨ad, e0, hc0, hc1, hc2⟩ := at_T117 hr 0 (by omega) (by omega)
  cases e0
  obtain ⟨ad2, hsel, hC2⟩ := cut1_117 hr hp hc
  obtain ⟨x, l2, rfl⟩ : ∃ x l2, l = x :: l2 := by
    cases l with
    | nil => simp at hp
    | cons x l2 => exact ⟨x, l2, rfl⟩
  have hc0a : w.cell? (ad.add 0) = some (.int .i64 x.f0) := by simpa [rd_T117] using hc0
  have hc1a : w.cell? ⟨(ad.add 0).block, (ad.add 0).off + 1, none⟩ = some (.int .i64 x.f1) := by simpa [rd_T117] using hc1
  have hc2a : w.cell? ⟨(ad.add 0).block, (ad.add 0).off + 2, none⟩ = some (.int .i64 x.f2) := by simpa [rd_T117] using hc2
  have eadd : ad.add 0 = ad := Addr.add_zero' ad
  rw [eadd] at hc0a hc1a hc2a
  have hb0 := World.block_lt_of_cell? w _ hc0a
  have hb1 : ¬ ad.block = w.heap.size := by omega
  have hL : (x :: l2).length ≤ 9223372036854775807 := hr.2.1
  have hcl1 : 1 ≤ c := by simp at hc; omega
  simp only [List.length_cons, List.drop_succ_cons, List.drop_zero, Nat.add_sub_cancel] at hC2 hL hc ⊢
  have HC2 := Lib.hid hC2
  have HC := Lib.hid hc
  have HPR := Lib.hid hpr
  clear hr hp hC2 hc0 hc1 hc2 hc hpr
  go_enter Try.func89, Try.ntmps89
  go_upto_region 2 with (fail)
  have HW := Lib.hid (boxes2 w (.cells #[.int .i64 0, .int .i64 0, .int .i64 0] 117) (.cells #[.int .i64 x.f0, .int .i64 x.f1, .int .i64 x.f2] 117))
  have B4 := blk_alloc (blk_new w (.cells #[.int .i64 0, .int .i64 0, .int .i64 0] 117)) (.cells #[.int .i64 x.f0, .int .i64 x.f1, .int .i64 x.f2] 117)
  have B5 := blk_new (w.alloc (.cells #[.int .i64 0, .int .i64 0, .int .i64 0] 117)) (.cells #[.int .i64 x.f0, .int .i64 x.f1, .int .i64 x.f2] 117)
  simp only [World.size_alloc] at B5
  replace B4 := Lib.hid B4
  replace B5 := Lib.hid B5
  generalize (w.alloc (.cells #[.int .i64 0, .int .i64 0, .int .i64 0] 117)).alloc (.cells #[.int .i64 x.f0, .int .i64 x.f1, .int .i64 x.f2] 117) = W0 at *
  obtain ⟨g4, eg4⟩ : ∃ g, w.heap.size = g := ⟨_, rfl⟩
  rw [eg4] at B4 B5 ⊢
  obtain ⟨g5, eg5⟩ : ∃ g, g4 + 1 = g := ⟨_, rfl⟩
  rw [eg5] at B5 ⊢
  have HG := Lib.hid (show w.heap.size = g4 ∧ g4 < g5 from ⟨eg4, (by omega)⟩)
  clear hc0a hc1a hc2a eadd hb0 hb1 eg4 eg5
  rcases hsel with ⟨e1, e2⟩ | ⟨e1, e2⟩
  · subst e1
    subst e2
    go_wp2
    clear hcl1
    go_loopg [7, 14] l2.length (fun kq v7 v14 w' => ∃ (i : Nat) (b : S117), v14 = .int .i64 i ∧ Aside0 (i + kq = l2.length) ∧ Aside0 (b = (l2.take i).foldl (minB p) x) ∧ Aside0 (w'.heap[g5]? = some (.cells #[.int .i64 b.f0, .int .i64 b.f1, .int .i64 b.f2] 117 (0, 0))) ∧ Aside0 (w'.heap[g4]? = some (.cells #[.int .i64 0, .int .i64 0, .int .i64 0] 117 (0, 0))) ∧ Aside0 (Below w.heap.size w w'))
    case atStart => exact ⟨0, x, rfl, ⟨(by omega)⟩, ⟨rfl⟩, ⟨B5.out⟩, ⟨B4.out⟩, ⟨HW.out⟩⟩
    clear B4 B5 HW
    obtain ⟨i, b, rfl, HI, HM, B5, B4, HB⟩ := hrel
    cases gk with
    | zero =>
      have hi : i = l2.length := by have := HI.out; omega
      have hlt : decide (i < l2.length) = false := by rw [hi]; simp
      have hlt2 : decide ((i : Int) < (l2.length : Int)) = false := decide_eq_false (by omega)
      have hM : b = leastB p (x :: l2) := by rw [HM.out, List.take_of_length_le (by omega)]; rfl
      have e0 : wr.cell? ⟨g5, 0, none⟩ = some (.int .i64 b.f0) := (blk_cell B5.out 0).trans rfl
      have e1 : wr.cell? ⟨g5, 1, none⟩ = some (.int .i64 b.f1) := (blk_cell B5.out 1).trans rfl
      have e2 : wr.cell? ⟨g4, 0, none⟩ = some (.int .i64 0) := (blk_cell B4.out 0).trans rfl
      have e3 : wr.cell? ⟨g4, 1, none⟩ = some (.int .i64 0) := (blk_cell B4.out 1).trans rfl
      have e6 : wr.cell? ⟨g5, 2, none⟩ = some (.int .i64 b.f2) := (blk_cell B5.out 2).trans rfl
      have e7 : wr.cell? ⟨g4, 2, none⟩ = some (.int .i64 0) := (blk_cell B4.out 2).trans rfl
      have e4 := blk_frozen B4.out 0
      have e5 := blk_frozen B4.out 1
      have e8 := blk_frozen B4.out 2
      have HM2 := Lib.hid hM
      clear hi hM
      go_wp2
      have B4' := blk_put (cs' := #[.int .i64 b.f0, .int .i64 b.f1, .int .i64 b.f2]) (blk_put (cs' := #[.int .i64 b.f0, .int .i64 b.f1, .int .i64 0]) (blk_put (cs' := #[.int .i64 b.f0, .int .i64 0, .int .i64 0]) B4.out 0 (.int .i64 b.f0) rfl) 1 (.int .i64 b.f1) rfl) 2 (.int .i64 b.f2) rfl
      have r0 := (blk_cell B4' 0).trans (show (#[Value.int .i64 b.f0, Value.int .i64 b.f1, Value.int .i64 b.f2] : Array Value)[0]? = some (.int .i64 b.f0) from rfl)
      have r1 := (blk_cell B4' 1).trans (show (#[Value.int .i64 b.f0, Value.int .i64 b.f1, Value.int .i64 b.f2] : Array Value)[1]? = some (.int .i64 b.f1) from rfl)
      have r2 := (blk_cell B4' 2).trans (show (#[Value.int .i64 b.f0, Value.int .i64 b.f1, Value.int .i64 b.f2] : Array Value)[2]? = some (.int .i64 b.f2) from rfl)
      exact bodyPost_ret (v := enc117 b) (by simp [results, Try.results89, go_sem, enc117, r0, r1, r2]) rfl ⟨(by rw [HM2.out]), by
        have h0 := HG.out.1
        rw [← h0]
        exact below_set (below_set (below_set HB.out (Nat.le_refl _)) (Nat.le_refl _)) (Nat.le_refl _)⟩
    | succ k1 => ?_
    have hi : i < l2.length := by have := HI.out; omega
    have hlt : decide (i < l2.length) = true := by simp [hi]
    have hlt2 : decide ((i : Int) < (l2.length : Int)) = true := decide_eq_true (by omega)
    have hC := Kd.C_below HC2.out HB.out
    obtain ⟨ad3, e0, hc0, hc1, hc2⟩ := at_T117 hC (i : Int) (by omega) (by omega)
    cases e0
    rw [Int.toNat_natCast, rd_T117_nat l2 i hi] at hc0 hc1 hc2
    have hblk := World.block_lt_of_cell? wr _ hc0
    have hblk2 : (ad2.add (i * 3)).block < wr.heap.size := hblk
    have hblk3 : ¬ (ad2.add (i * 3)).block = wr.heap.size := by omega
    have HS := Lib.hid (foldl_step (minB p) x l2 i hi)
    clear hC
    have hym : l2[i] ∈ x :: l2 := List.mem_cons_of_mem _ (List.getElem_mem hi)
    have hbm : b ∈ x :: l2 := by rw [HM.out]; exact take_mem p x l2 i
    generalize l2[i] = y at *
    go_upto_region 5 with (fail)
    have B7 := blk_new wr (.cells #[.int .i64 y.f0, .int .i64 y.f1, .int .i64 y.f2] 117)
    have HB7 := below_alloc (Below.refl wr.heap.size wr) (.cells #[.int .i64 y.f0, .int .i64 y.f1, .int .i64 y.f2] 117)
    have B5a := blk_below B5.out HB7
    have B4a := blk_below B4.out HB7
    have HB8 := Lib.hid (below_then HB.out HB.out.size HB7)
    clear hc0 hc1 hc2 hblk hblk2 hblk3 HB7
    generalize wr.alloc (.cells #[.int .i64 y.f0, .int .i64 y.f1, .int .i64 y.f2] 117) = W1 at *
    generalize wr.heap.size = g7 at *
    have HPW := Lib.hid (HPR.out.below (show Below w.heap.size w W1 from HB8.out))
    obtain ⟨q, hq⟩ : ∃ q, decide (p y < p b) = q := ⟨_, rfl⟩
    obtain ⟨Wd, ed⟩ : ∃ Wd, W1.drew = Wd := ⟨_, rfl⟩
    have hd : Below W1.heap.size W1 Wd := by rw [← ed]; exact below_drew (Below.refl _ _)
    refine sA_ 7 (fun w' => (w'.cell? ⟨g7, 0, none⟩ = some (.int .i64 y.f0) ∧ w'.cell? ⟨g7, 1, none⟩ = some (.int .i64 y.f1) ∧ w'.cell? ⟨g7, 2, none⟩ = some (.int .i64 y.f2)) ∧ (w'.cell? ⟨g5, 0, none⟩ = some (.int .i64 b.f0) ∧ w'.cell? ⟨g5, 1, none⟩ = some (.int .i64 b.f1) ∧ w'.cell? ⟨g5, 2, none⟩ = some (.int .i64 b.f2))) [] least89T.tab5 least89T.bits5 (by rw [ed]; exact ⟨⟨(blk_cell (blk_below B7 hd) 0).trans rfl, (blk_cell (blk_below B7 hd) 1).trans rfl, (blk_cell (blk_below B7 hd) 2).trans rfl⟩, ⟨(blk_cell (blk_below B5a hd) 0).trans rfl, (blk_cell (blk_below B5a hd) 1).trans rfl, (blk_cell (blk_below B5a hd) 2).trans rfl⟩⟩) (fun hHeld HT_ HW_ => ?_)
    rw [ed] at hHeld ⊢
    refine pA_ 0 (some 18) 7 1 ?_
    refine pA_ 3 (some 21) 7 9 ?_
    refine tC_ 1 (some 19) 7 11 ?_
    refine tC_ 4 (some 22) 7 27 ?_
    refine oA_ 2 (some 20) 7 31 (fun K hK => ?_)
    refine goesV_ EG #[enc117 y] (by rfl) rfl rfl (by rfl) b11_ ?_
    refine (HPW.out Wd y hym hd).mono ?_
    rintro e W2 ⟨rfl, hb⟩
    refine ⟨_, rfl, ?_⟩
    have hd2 := below_then hd hd.size hb
    refine hK.out _ _ ⟨⟨(blk_cell (blk_below B7 hd2) 0).trans rfl, (blk_cell (blk_below B7 hd2) 1).trans rfl, (blk_cell (blk_below B7 hd2) 2).trans rfl⟩, ⟨(blk_cell (blk_below B5a hd2) 0).trans rfl, (blk_cell (blk_below B5a hd2) 1).trans rfl, (blk_cell (blk_below B5a hd2) 2).trans rfl⟩⟩ (fun hHeld => ?_)
    clear hK K
    refine nA_ (some 20) ?_
    refine oA_ 5 (some 23) 7 63 (fun K hK => ?_)
    refine goesV_ EG #[enc117 b] (by rfl) rfl rfl (by rfl) b11_ ?_
    refine (HPW.out W2 b hbm hd2).mono ?_
    rintro e W3 ⟨rfl, hb2⟩
    refine ⟨_, rfl, ?_⟩
    have hd3 := below_then hd2 hd2.size hb2
    refine hK.out _ _ ⟨⟨(blk_cell (blk_below B7 hd3) 0).trans rfl, (blk_cell (blk_below B7 hd3) 1).trans rfl, (blk_cell (blk_below B7 hd3) 2).trans rfl⟩, ⟨(blk_cell (blk_below B5a hd3) 0).trans rfl, (blk_cell (blk_below B5a hd3) 1).trans rfl, (blk_cell (blk_below B5a hd3) 2).trans rfl⟩⟩ (fun hHeld => ?_)
    clear hK K
    refine nA_ (some 23) ?_
    refine pA_ 6 (some 24) 7 127 ?_
    refine dA_ ?_
    have B5b := blk_below B5a hd3
    have B4b := blk_below B4a hd3
    have e0 : W3.cell? ⟨g7, 0, none⟩ = some (.int .i64 y.f0) := (blk_cell (blk_below B7 hd3) 0).trans rfl
    have e1 : W3.cell? ⟨g7, 1, none⟩ = some (.int .i64 y.f1) := (blk_cell (blk_below B7 hd3) 1).trans rfl
    have e2 : W3.cell? ⟨g5, 0, none⟩ = some (.int .i64 b.f0) := (blk_cell B5b 0).trans rfl
    have e3 : W3.cell? ⟨g5, 1, none⟩ = some (.int .i64 b.f1) := (blk_cell B5b 1).trans rfl
    have e6 : W3.cell? ⟨g7, 2, none⟩ = some (.int .i64 y.f2) := (blk_cell (blk_below B7 hd3) 2).trans rfl
    have e7 : W3.cell? ⟨g5, 2, none⟩ = some (.int .i64 b.f2) := (blk_cell B5b 2).trans rfl
    have e4 := blk_frozen B5b 0
    have e5 := blk_frozen B5b 1
    have e8 := blk_frozen B5b 2
    have HB9 := Lib.hid (below_then HB8.out HB8.out.size hd3)
    have HX4 := Lib.hid B4b
    have HX5 := Lib.hid B5b
    clear hHeld HT_ HW_ hd hd2 hd3 hb hb2 B7 B5a B4a B5b B4b ed B5 B4
    cases q with
    | false =>
      have hlt3 : ¬ p y < p b := of_decide_eq_false hq
      have HM2 := Lib.hid (show b = (l2.take (i + 1)).foldl (minB p) x by rw [HS.out, ← HM.out, minB, if_neg hlt3])
      clear hlt3 hq
      go_wp2
      go_roundg k1
      case rel => exact ⟨i + 1, b, rfl, ⟨b21_⟩, ⟨HM2.out⟩, ⟨HX5.out⟩, ⟨HX4.out⟩, ⟨HB9.out⟩⟩
      case measure => omega
    | true => ?_
    have hlt3 : p y < p b := of_decide_eq_true hq
    have HM2 := Lib.hid (show y = (l2.take (i + 1)).foldl (minB p) x by rw [HS.out, ← HM.out, minB, if_pos hlt3])
    clear hlt3 hq
    go_wp2
    go_roundg k1
    case rel => exact ⟨i + 1, y, rfl, ⟨b21_⟩, ⟨HM2.out⟩, ⟨blk_put (cs := #[.int .i64 y.f0, .int .i64 y.f1, .int .i64 b.f2]) (blk_put (cs := #[.int .i64 y.f0, .int .i64 b.f1, .int .i64 b.f2]) (blk_put (cs := #[.int .i64 b.f0, .int .i64 b.f1, .int .i64 b.f2]) HX5.out 0 _ rfl) 1 _ rfl) 2 _ rfl⟩, ⟨blk_far (p := ⟨g5, 2, none⟩) (blk_far (p := ⟨g5, 1, none⟩) (blk_far (p := ⟨g5, 0, none⟩) HX4.out b35_ _) b35_ _) b35_ _⟩, ⟨below_set (below_set (below_set HB9.out (by have := HG.out; omega)) (by have := HG.out; omega)) (by have := HG.out; omega)⟩⟩
    case measure => omega
  go_wp2
  clear e1 e2 hcl1
  go_loopg [7, 14] l2.length (fun kq v7 v14 w' => ∃ (i : Nat) (b : S117), v14 = .int .i64 i ∧ Aside0 (i + kq = l2.length) ∧ Aside0 (b = (l2.take i).foldl (minB p) x) ∧ Aside0 (w'.heap[g5]? = some (.cells #[.int .i64 b.f0, .int .i64 b.f1, .int .i64 b.f2] 117 (0, 0))) ∧ Aside0 (w'.heap[g4]? = some (.cells #[.int .i64 0, .int .i64 0, .int .i64 0] 117 (0, 0))) ∧ Aside0 (Below w.heap.size w w'))
  case atStart => exact ⟨0, x, rfl, ⟨(by omega)⟩, ⟨rfl⟩, ⟨B5.out⟩, ⟨B4.out⟩, ⟨HW.out⟩⟩
  clear B4 B5 HW
  obtain ⟨i, b, rfl, HI, HM, B5, B4, HB⟩ := hrel
  cases gk with
  | zero =>
    have hi : i = l2.length := by have := HI.out; omega
    have hlt : decide (i < l2.length) = false := by rw [hi]; simp
    have hlt2 : decide ((i : Int) < (l2.length : Int)) = false := decide_eq_false (by omega)
    have hM : b = leastB p (x :: l2) := by rw [HM.out, List.take_of_length_le (by omega)]; rfl
    have e0 : wr.cell? ⟨g5, 0, none⟩ = some (.int .i64 b.f0) := (blk_cell B5.out 0).trans rfl
    have e1 : wr.cell? ⟨g5, 1, none⟩ = some (.int .i64 b.f1) := (blk_cell B5.out 1).trans rfl
    have e2 : wr.cell? ⟨g4, 0, none⟩ = some (.int .i64 0) := (blk_cell B4.out 0).trans rfl
    have e3 : wr.cell? ⟨g4, 1, none⟩ = some (.int .i64 0) := (blk_cell B4.out 1).trans rfl
    have e6 : wr.cell? ⟨g5, 2, none⟩ = some (.int .i64 b.f2) := (blk_cell B5.out 2).trans rfl
    have e7 : wr.cell? ⟨g4, 2, none⟩ = some (.int .i64 0) := (blk_cell B4.out 2).trans rfl
    have e4 := blk_frozen B4.out 0
    have e5 := blk_frozen B4.out 1
    have e8 := blk_frozen B4.out 2
    have HM2 := Lib.hid hM
    clear hi hM
    go_wp2
    have B4' := blk_put (cs' := #[.int .i64 b.f0, .int .i64 b.f1, .int .i64 b.f2]) (blk_put (cs' := #[.int .i64 b.f0, .int .i64 b.f1, .int .i64 0]) (blk_put (cs' := #[.int .i64 b.f0, .int .i64 0, .int .i64 0]) B4.out 0 (.int .i64 b.f0) rfl) 1 (.int .i64 b.f1) rfl) 2 (.int .i64 b.f2) rfl
    have r0 := (blk_cell B4' 0).trans (show (#[Value.int .i64 b.f0, Value.int .i64 b.f1, Value.int .i64 b.f2] : Array Value)[0]? = some (.int .i64 b.f0) from rfl)
    have r1 := (blk_cell B4' 1).trans (show (#[Value.int .i64 b.f0, Value.int .i64 b.f1, Value.int .i64 b.f2] : Array Value)[1]? = some (.int .i64 b.f1) from rfl)
    have r2 := (blk_cell B4' 2).trans (show (#[Value.int .i64 b.f0, Value.int .i64 b.f1, Value.int .i64 b.f2] : Array Value)[2]? = some (.int .i64 b.f2) from rfl)
    exact bodyPost_ret (v := enc117 b) (by simp [results, Try.results89, go_sem, enc117, r0, r1, r2]) rfl ⟨(by rw [HM2.out]), by
      have h0 := HG.out.1
      rw [← h0]
      exact below_set (below_set (below_set HB.out (Nat.le_refl _)) (Nat.le_refl _)) (Nat.le_refl _)⟩
  | succ k1 => ?_
  have hi : i < l2.length := by have := HI.out; omega
  have hlt : decide (i < l2.length) = true := by simp [hi]
  have hlt2 : decide ((i : Int) < (l2.length : Int)) = true := decide_eq_true (by omega)
  have hC := Kd.C_below HC2.out HB.out
  obtain ⟨ad3, e0, hc0, hc1, hc2⟩ := at_T117 hC (i : Int) (by omega) (by omega)
  cases e0
  rw [Int.toNat_natCast, rd_T117_nat l2 i hi] at hc0 hc1 hc2
  have hblk := World.block_lt_of_cell? wr _ hc0
  have hblk2 : (ad2.add (i * 3)).block < wr.heap.size := hblk
  have hblk3 : ¬ (ad2.add (i * 3)).block = wr.heap.size := by omega
  have HS := Lib.hid (foldl_step (minB p) x l2 i hi)
  clear hC
  have hym : l2[i] ∈ x :: l2 := List.mem_cons_of_mem _ (List.getElem_mem hi)
  have hbm : b ∈ x :: l2 := by rw [HM.out]; exact take_mem p x l2 i
  generalize l2[i] = y at *
  go_upto_region 5 with (fail)
  have B7 := blk_new wr (.cells #[.int .i64 y.f0, .int .i64 y.f1, .int .i64 y.f2] 117)
  have HB7 := below_alloc (Below.refl wr.heap.size wr) (.cells #[.int .i64 y.f0, .int .i64 y.f1, .int .i64 y.f2] 117)
  have B5a := blk_below B5.out HB7
  have B4a := blk_below B4.out HB7
  have HB8 := Lib.hid (below_then HB.out HB.out.size HB7)
  clear hc0 hc1 hc2 hblk hblk2 hblk3 HB7
  generalize wr.alloc (.cells #[.int .i64 y.f0, .int .i64 y.f1, .int .i64 y.f2] 117) = W1 at *
  generalize wr.heap.size = g7 at *
  have HPW := Lib.hid (HPR.out.below (show Below w.heap.size w W1 from HB8.out))
  obtain ⟨q, hq⟩ : ∃ q, decide (p y < p b) = q := ⟨_, rfl⟩
  obtain ⟨Wd, ed⟩ : ∃ Wd, W1.drew = Wd := ⟨_, rfl⟩
  have hd : Below W1.heap.size W1 Wd := by rw [← ed]; exact below_drew (Below.refl _ _)
  refine sA_ 7 (fun w' => (w'.cell? ⟨g7, 0, none⟩ = some (.int .i64 y.f0) ∧ w'.cell? ⟨g7, 1, none⟩ = some (.int .i64 y.f1) ∧ w'.cell? ⟨g7, 2, none⟩ = some (.int .i64 y.f2)) ∧ (w'.cell? ⟨g5, 0, none⟩ = some (.int .i64 b.f0) ∧ w'.cell? ⟨g5, 1, none⟩ = some (.int .i64 b.f1) ∧ w'.cell? ⟨g5, 2, none⟩ = some (.int .i64 b.f2))) [] least89T.tab5 least89T.bits5 (by rw [ed]; exact ⟨⟨(blk_cell (blk_below B7 hd) 0).trans rfl, (blk_cell (blk_below B7 hd) 1).trans rfl, (blk_cell (blk_below B7 hd) 2).trans rfl⟩, ⟨(blk_cell (blk_below B5a hd) 0).trans rfl, (blk_cell (blk_below B5a hd) 1).trans rfl, (blk_cell (blk_below B5a hd) 2).trans rfl⟩⟩) (fun hHeld HT_ HW_ => ?_)
  rw [ed] at hHeld ⊢
  refine pA_ 0 (some 18) 7 1 ?_
  refine pA_ 3 (some 21) 7 9 ?_
  refine tC_ 1 (some 19) 7 11 ?_
  refine tC_ 4 (some 22) 7 27 ?_
  refine oA_ 2 (some 20) 7 31 (fun K hK => ?_)
  refine goesV_ EG #[enc117 y] (by rfl) rfl rfl (by rfl) b11_ ?_
  refine (HPW.out Wd y hym hd).mono ?_
  rintro e W2 ⟨rfl, hb⟩
  refine ⟨_, rfl, ?_⟩
  have hd2 := below_then hd hd.size hb
  refine hK.out _ _ ⟨⟨(blk_cell (blk_below B7 hd2) 0).trans rfl, (blk_cell (blk_below B7 hd2) 1).trans rfl, (blk_cell (blk_below B7 hd2) 2).trans rfl⟩, ⟨(blk_cell (blk_below B5a hd2) 0).trans rfl, (blk_cell (blk_below B5a hd2) 1).trans rfl, (blk_cell (blk_below B5a hd2) 2).trans rfl⟩⟩ (fun hHeld => ?_)
  clear hK K
  refine nA_ (some 20) ?_
  refine oA_ 5 (some 23) 7 63 (fun K hK => ?_)
  refine goesV_ EG #[enc117 b] (by rfl) rfl rfl (by rfl) b11_ ?_
  refine (HPW.out W2 b hbm hd2).mono ?_
  rintro e W3 ⟨rfl, hb2⟩
  refine ⟨_, rfl, ?_⟩
  have hd3 := below_then hd2 hd2.size hb2
  refine hK.out _ _ ⟨⟨(blk_cell (blk_below B7 hd3) 0).trans rfl, (blk_cell (blk_below B7 hd3) 1).trans rfl, (blk_cell (blk_below B7 hd3) 2).trans rfl⟩, ⟨(blk_cell (blk_below B5a hd3) 0).trans rfl, (blk_cell (blk_below B5a hd3) 1).trans rfl, (blk_cell (blk_below B5a hd3) 2).trans rfl⟩⟩ (fun hHeld => ?_)
  clear hK K
  refine nA_ (some 23) ?_
  refine pA_ 6 (some 24) 7 127 ?_
  refine dA_ ?_
  have B5b := blk_below B5a hd3
  have B4b := blk_below B4a hd3
  have e0 : W3.cell? ⟨g7, 0, none⟩ = some (.int .i64 y.f0) := (blk_cell (blk_below B7 hd3) 0).trans rfl
  have e1 : W3.cell? ⟨g7, 1, none⟩ = some (.int .i64 y.f1) := (blk_cell (blk_below B7 hd3) 1).trans rfl
  have e2 : W3.cell? ⟨g5, 0, none⟩ = some (.int .i64 b.f0) := (blk_cell B5b 0).trans rfl
  have e3 : W3.cell? ⟨g5, 1, none⟩ = some (.int .i64 b.f1) := (blk_cell B5b 1).trans rfl
  have e6 : W3.cell? ⟨g7, 2, none⟩ = some (.int .i64 y.f2) := (blk_cell (blk_below B7 hd3) 2).trans rfl
  have e7 : W3.cell? ⟨g5, 2, none⟩ = some (.int .i64 b.f2) := (blk_cell B5b 2).trans rfl
  have e4 := blk_frozen B5b 0
  have e5 := blk_frozen B5b 1
  have e8 := blk_frozen B5b 2
  have HB9 := Lib.hid (below_then HB8.out HB8.out.size hd3)
  have HX4 := Lib.hid B4b
  have HX5 := Lib.hid B5b
  clear hHeld HT_ HW_ hd hd2 hd3 hb hb2 B7 B5a B4a B5b B4b ed B5 B4
  cases q with
  | false =>
    have hlt3 : ¬ p y < p b := of_decide_eq_false hq
    have HM2 := Lib.hid (show b = (l2.take (i + 1)).foldl (minB p) x by rw [HS.out, ← HM.out, minB, if_neg hlt3])
    clear hlt3 hq
    go_wp2
    go_roundg k1
    case rel => exact ⟨i + 1, b, rfl, ⟨b21_⟩, ⟨HM2.out⟩, ⟨HX5.out⟩, ⟨HX4.out⟩, ⟨HB9.out⟩⟩
    case measure => omega
  | true => ?_
  have hlt3 : p y < p b := of_decide_eq_true hq
  have HM2 := Lib.hid (show y = (l2.take (i + 1)).foldl (minB p) x by rw [HS.out, ← HM.out, minB, if_pos hlt3])
  clear hlt3 hq
  go_wp2
  go_roundg k1
  case rel => exact ⟨i + 1, y, rfl, ⟨b21_⟩, ⟨HM2.out⟩, ⟨blk_put (cs := #[.int .i64 y.f0, .int .i64 y.f1, .int .i64 b.f2]) (blk_put (cs := #[.int .i64 y.f0, .int .i64 b.f1, .int .i64 b.f2]) (blk_put (cs := #[.int .i64 b.f0, .int .i64 b.f1, .int .i64 b.f2]) HX5.out 0 _ rfl) 1 _ rfl) 2 _ rfl⟩, ⟨blk_far (p := ⟨g5, 2, none⟩) (blk_far (p := ⟨g5, 1, none⟩) (blk_far (p := ⟨g5, 0, none⟩) HX4.out b35_ _) b35_ _) b35_ _⟩, ⟨below_set (below_set (below_set HB9.out (by have := HG.out; omega)) (by have := HG.out; omega)) (by have := HG.out; omega)⟩⟩
  case measure => omega
end Go.Proofs.Ytcgdbjojjpoegaa.P

namespace Go.Proofs.Ytcgdbjojjpoegaa.P
open Go.RowKit Go.Proofs.YtcgdbjojjpoegaaW.PrintWords Go.Proofs.YtcgdbjojjpoegaaW.PrintLast Go.Proofs.YtcgdbjojjpoegaaW.PrintMore
set_option linter.unusedVariables false
set_option linter.unusedSimpArgs false

/-- an amount that is not whole -/
def brk (den : Int) (a : Am) : Bool := a.pa.tmod den != 0
/-- A book at rest: its amounts in a row of their own. -/
structure Bk (W : World) (B base : Nat) (den : Int) (vc : Value) (bA cA : Nat) (am : List Am) (seen : List Int) : Prop where
  at_ : BookAt W B base den vc (.slice (some ⟨bA, 0, none⟩) am.length cA) am seen
  lt : B < base
section
variable {W W' : World} {B base : Nat} {den : Int} {vc : Value} {bA cA : Nat} {am : List Am} {seen : List Int}
theorem Bk.below (h : Bk W B base den vc bA cA am seen) (hb : Below W.heap.size W W') : Bk W' B base den vc bA cA am seen := ⟨h.at_.below hb, h.lt⟩
theorem Bk.base_le (h : Bk W B base den vc bA cA am seen) : base ≤ bA ∧ bA < W.heap.size := h.at_.own.lt bA rfl
theorem Bk.cell (h : Bk W B base den vc bA cA am seen) (i : Nat) (hi : i < am.length) :
    W.cell? ⟨bA, i * 3, none⟩ = some (.int .i64 am[i].fr) ∧ W.cell? ⟨bA, i * 3 + 1, none⟩ = some (.int .i64 am[i].tt) ∧ W.cell? ⟨bA, i * 3 + 2, none⟩ = some (.int .i64 am[i].pa) :=
  ⟨(ownA_cell h.at_.own i 0 hi (by omega)).1.trans rfl, (ownA_cell h.at_.own i 1 hi (by omega)).1.trans rfl, (ownA_cell h.at_.own i 2 hi (by omega)).1.trans rfl⟩
theorem Bk.fzA (h : Bk W B base den vc bA cA am seen) (i : Nat) (hi : i < am.length) : W.frozen? ⟨bA, i * 3 + 2, none⟩ = false := (ownA_cell h.at_.own i 2 hi (by omega)).2
theorem Bk.len_le (h : Bk W B base den vc bA cA am seen) : am.length ≤ cA ∧ cA ≤ 9223372036854775807 := by
  obtain ⟨h1, ⟨h0, _⟩ | ⟨g', cap, cur, h0, hg, hh, hle, hcm, hs, ht⟩⟩ := h.at_.own
  · cases h0
  injection h0 with e1 e2 e3
  subst e3
  have : maxLen = 9223372036854775807 := rfl
  omega
set_option maxHeartbeats 400000 in
set_option maxRecDepth 100000 in
theorem broken_calls (h : Bk W B base den vc bA cA am seen) (i : Nat) (hi : i < am.length) (hd : den ≠ 0) :
    Calls Try.prog 69 #[.pointer (some ⟨B, 0, none⟩), .int .i64 (i : Int)] W fun e w' => e = .returned (.bool (brk den am[i])) ∧ Drawn0 W w' := by
  have b0 := h.at_.c0
  have b2 := h.at_.c2
  obtain ⟨_, _, hc⟩ := h.cell i hi
  have hle := h.len_le
  have hi2 : (i : Int) < (am.length : Int) := by omega
  have hz : (den == 0) = false := beq_eq_false_iff_ne.mpr hd
  have hz2 : ¬ den = 0 := hd
  have hlen : am.length ≤ 9223372036854775807 := by omega
  have EB := Lib.hid (show brk den am[i] = (am[i].pa.tmod den != 0) from rfl)
  clear h hle
  generalize brk den am[i] = bv at *
  generalize am[i].pa = x at *
  go_enter Try.func69, Try.ntmps69
  go_upto_region 1 with (fail)
  go_quiet (fail)
  go_wp2
  go_ret
  exact ⟨(by rw [EB.out]; rfl), ⟨_, rfl⟩⟩
/-- by how many parts an amount can become more, or less -/
def roomF (den : Int) (a : Am) (more : Bool) : Int := if more = true then wrap64 (den - a.pa.tmod den) else a.pa.tmod den
set_option maxHeartbeats 400000 in
set_option maxRecDepth 100000 in
theorem room_calls (h : Bk W B base den vc bA cA am seen) (i : Nat) (hi : i < am.length) (hd : den ≠ 0) (more : Bool) :
    Calls Try.prog 91 #[.pointer (some ⟨B, 0, none⟩), .int .i64 (i : Int), .bool more] W fun e w' => e = .returned (.int .i64 (roomF den am[i] more)) ∧ Drawn0 W w' := by
  have b0 := h.at_.c0
  have b2 := h.at_.c2
  obtain ⟨_, _, hc⟩ := h.cell i hi
  have hle := h.len_le
  have hi2 : (i : Int) < (am.length : Int) := by omega
  have hz : (den == 0) = false := beq_eq_false_iff_ne.mpr hd
  have hz2 : ¬ den = 0 := hd
  have hlen : am.length ≤ 9223372036854775807 := by omega
  have EB := Lib.hid (show roomF den am[i] more = if more = true then wrap64 (den - am[i].pa.tmod den) else am[i].pa.tmod den from rfl)
  clear h hle
  generalize roomF den am[i] more = bv at *
  generalize am[i].pa = x at *
  go_enter Try.func91, Try.ntmps91
  go_upto_region 1 with (fail)
  go_quiet (fail)
  cases more with
  | true =>
    go_wp2
    go_ret
    exact ⟨(by rw [EB.out]; rfl), ⟨_, rfl⟩⟩
  | false => ?_
  go_wp2
  go_ret
  exact ⟨(by rw [EB.out]; rfl), ⟨_, rfl⟩⟩
end
end Go.Proofs.Ytcgdbjojjpoegaa.P

