import Derived.Test.YtfhmepdbbhcncaaE7
import Derived.RangeFuncNested
import Derived.RangeFuncBound
import Derived.RangeFuncCalls
import Derived.RangeFuncLeaves
import Derived.Shelf.Abstract
import Derived.Shelf.AbstractIn
import Derived.Shelf.RegionOpen
import Derived.WalkKit
import Derived.OwnWalkIn
import Derived.TacticsInMore
import Derived.LoopNIn
import Derived.LoopIn
import Derived.Sort.LoopGhostIn
namespace Go.Proofs.Ytfhmepdbbhcncaa.P
open Go.RowKit Go.Shelf Go.Proofs.YtfhmepdbbhcncaaW.PrintWords Go.Proofs.YtfhmepdbbhcncaaW.PrintLast Go.Proofs.YtfhmepdbbhcncaaW.PrintMore Go.Proofs.YtfhmepdbbhcncaaM
attribute [local go_sem] Oper.semAt_some
set_option linter.unusedVariables false
set_option linter.unusedSimpArgs false

/-- a move as the iterator hands it over: its name, and itself; it goes to a vessel -/
abbrev OutMove := { x : Int × S58 // 0 ≤ x.2.f1 ∧ x.2.f1 < 20 }
def encO (x : OutMove) : Array Value := #[.int .i64 x.1.1, enc58 x.1.2]
/-- the moves out of a vessel among the first k -/
def outsTo (v : Int) (l : List S58) : Nat → List (Int × S58)
  | 0 => []
  | k + 1 => outsTo v l k ++ if (l.getD k z58).f0 = v then [((k : Int), l.getD k z58)] else []
/-- what a round of a loop over the moves out of a vessel keeps -/
def KpO (B bx bv : Nat) (W W' : World) : Prop := W.heap.size ≤ W'.heap.size ∧ (∀ k, k < B → W'.heap[k]? = W.heap[k]?) ∧ W'.heap[bx]? = W.heap[bx]? ∧ W'.heap[bv]? = W.heap[bv]?

theorem hp56 : Kd.Heap k56 := Kd.heap_iso _ (Kd.heap_pair (Kd.heap_int .i64) (Kd.heap_int .i64))
theorem hp58 : Kd.Heap k58 := Kd.heap_iso _ (Kd.heap_pair (Kd.heap_int .i64) (Kd.heap_pair (Kd.heap_int .i64) hp56))

theorem outsTo_len (v : Int) (l : List S58) : ∀ k, (outsTo v l k).length ≤ k
  | 0 => by simp [outsTo]
  | k + 1 => by
    have := outsTo_len v l k
    simp only [outsTo, List.length_append]
    split <;> simp <;> omega

set_option maxHeartbeats 2000000 in
set_option maxRecDepth 100000 in
theorem out_stops (A : Option Addr) (c : Nat) (l : List S58) (hl : ∀ m ∈ l, 0 ≤ m.f1 ∧ m.f1 < 20) (v : Int) (B S bx bv : Nat) (w0 w : World)
    (hB : w0.heap.size = B) (hlt : B ≤ w.heap.size) (hr : Kd.C k58 w0 A l.length l) (hkeep : ∀ k, k < B → w.heap[k]? = w0.heap[k]?)
    (hx : Blk w bx 81 #[.pointer (some ⟨S, 0, none⟩)]) (hv : Blk w bv 3 #[.int .i64 v]) (hS : w.cell? ⟨S, 1, none⟩ = some (.slice A l.length c)) :
    SeqStopsK Fence.wide 3 Try.prog 84 #[.pointer (some ⟨bx, 0, none⟩), .pointer (some ⟨bv, 0, none⟩)] encO (KpO B bx bv) (fun xs => xs.map (·.1) = outsTo v l l.length) (fun _ => True) l.length w := by
  intro ll J Jx W hW hJ hJx hY h0
  have hro : Fence.wide.round = none := rfl
  refine callsIn_of_wp Try.func84 rfl trivial ?_ hro
  simp only [Try.ntmps84, List.size_toArray, List.length_cons, List.length_nil, Nat.reduceAdd, Nat.reduceSub, Array.replicate_succ, Array.replicate_zero, List.push_toArray, List.append_toArray, List.nil_append, List.cons_append]
  have cx : W.cell? ⟨bx, 0, none⟩ = some (.pointer (some ⟨S, 0, none⟩)) := (hx.below hW hx.lt).cell 0
  have cS : W.cell? ⟨S, 1, none⟩ = some (.slice A l.length c) := cell_in hW hS
  have HV := Aside0.mk (hv.below hW hv.lt)
  have HX := Aside0.mk (hx.below hW hx.lt)
  have HK := Aside0.mk (show ∀ k, k < B → W.heap[k]? = w0.heap[k]? from fun k hk => (hW.block k (by omega)).trans (hkeep k hk))
  have HSZ := Aside0.mk (show B ≤ W.heap.size from Nat.le_trans hlt hW.size)
  have HLE := hr.2.1
  have HR := Aside0.mk hr
  have HL := Aside0.mk hl
  have HBX := Aside0.mk (show bx < W.heap.size from Nat.lt_of_lt_of_le hx.lt hW.size)
  have HBV := Aside0.mk (show bv < W.heap.size from Nat.lt_of_lt_of_le hv.lt hW.size)
  have HW0 := Aside0.mk hB
  have HY := Aside0.mk hY
  have HJ := Aside0.mk hJ
  clear hr hl hkeep hx hv hS hlt hB hY hJ
  gi_wp2
  gi_loopg [12] l.length (fun kq v12 w' => ∃ (k : Nat) (pre : List OutMove), v12 = .int .i64 k ∧ Aside0 (k + kq = l.length) ∧ Aside0 (pre.map (·.1) = outsTo v l k) ∧ Aside0 (J pre w') ∧ Aside0 (W.heap.size ≤ w'.heap.size) ∧ Aside0 (∀ k, k < B → w'.heap[k]? = w0.heap[k]?) ∧ Aside0 (Blk w' bv 3 #[.int .i64 v]))
  case atStart => exact ⟨0, [], rfl, ⟨by omega⟩, ⟨rfl⟩, ⟨h0⟩, ⟨Nat.le_refl _⟩, HK, HV⟩
  case round =>
    clear h0 cx cS
    obtain ⟨k, pre, rfl, HN, HP, HJP, HSW, HKW, HVW⟩ := hrel
    cases gk with
    | zero =>
      have hk : k = l.length := by have := HN.out; omega
      have hlt2 : decide (k < l.length) = false := by rw [hk]; simp
      gi_wp2
      go_end0
      exact ⟨⟨_, rfl⟩, .inl ⟨pre, by rw [← hk]; exact HP.out, HJP.out⟩⟩
    | succ k1 =>
      have hk : k < l.length := by have := HN.out; omega
      have hlt2 : decide (k < l.length) = true := by simp [hk]
      have hC : Kd.C k58 wr A l.length l := hp58.C (fun q hq => HKW.out q (by rw [← HW0.out]; exact hq)) HR.out
      obtain ⟨ad, e0, hc0, hc1, hc2, hc3⟩ := at_T58 hC (k : Int) (by omega) (by omega)
      cases e0
      have hmem : rd_T58 l (k : Int) ∈ l := by rw [rd_T58_nat l k hk]; exact List.getElem_mem hk
      have hgd : l.getD k z58 = rd_T58 l (k : Int) := by simp [rd_T58]
      have HM := HL.out _ hmem
      have HO : Aside0 (outsTo v l (k + 1) = outsTo v l k ++ if (rd_T58 l (k : Int)).f0 = v then [((k : Int), rd_T58 l (k : Int))] else []) := ⟨by rw [outsTo, hgd]⟩
      rw [Int.toNat_natCast] at hc0 hc1 hc2 hc3
      clear hC hmem hgd
      generalize rd_T58 l (k : Int) = m at *
      rcases m with ⟨f, tt, ⟨lo, hi⟩⟩
      have hpl : pre.length < l.length := by
        have h1 := congrArg List.length HP.out
        have h2 := outsTo_len v l k
        simp only [List.length_map] at h1
        omega
      have HJ1 : Aside0 (J pre (wr.alloc (.cells #[.int .i64 f, .int .i64 tt, .int .i64 lo, .int .i64 hi] 58))) := ⟨HJ.out pre wr _ none HJP.out (World.grownBy_alloc wr _ none) (fun r e => by cases e)⟩
      have hcv : wr.cell? ⟨bv, 0, none⟩ = some (.int .i64 v) := HVW.out.cell 0
      have hne : bv < wr.heap.size := HVW.out.lt
      by_cases hfv : f = v
      · have hq : (f == v) = true := by simp [hfv]
        obtain ⟨fn, tmps, assign, body, hy, hR⟩ := HY.out pre ⟨((k : Int), ⟨f, tt, ⟨lo, hi⟩⟩), HM⟩ _ HJ1.out hpl
        have hy' : (Instr.yield ll #[.int .i64 (k : Int), .agg #[.int .i64 f, .int .i64 tt, .int .i64 lo, .int .i64 hi]]).run Try.prog (wr.alloc (.cells #[.int .i64 f, .int .i64 tt, .int .i64 lo, .int .i64 hi] 58)) = _ := hy
        have HFV := Aside0.mk hfv
        clear hfv hy
        gi_wp2
        refine hR.mono ?_
        rintro e W3 (⟨rfl, hJ3, hk3⟩ | ⟨rfl, hJx3⟩)
        · gi_wp2
          gi_roundg k1
          case rel => exact ⟨k + 1, _, by go_num, ⟨by have := HN.out; omega⟩, ⟨by rw [HO.out, if_pos HFV.out, List.map_append, HP.out]; rfl⟩, ⟨hJ3⟩, ⟨by have := HSW.out; have := hk3.1; simp at this; omega⟩, ⟨fun q hq => (hk3.2.1 q hq).trans ((World.grownBy_alloc wr _ none).block q (by have := HSW.out; have := HSZ.out; omega) (by simp) |>.trans (HKW.out q hq))⟩, ⟨hk3.2.2.2.trans (HVW.out.alloc _)⟩⟩
          case measure => omega
        · gi_wp2
          refine bodyPost_ret (results_none rfl _ _ _) rfl ?_
          exact ⟨⟨_, rfl⟩, .inr ⟨_, trivial, hJx3⟩⟩
      · have hq : (f == v) = false := by simp [hfv]
        have HFV := Aside0.mk hfv
        clear hfv
        gi_wp2
        refine ⟨fun _ h => (by cases h), ?_⟩
        gi_wp2
        gi_roundg k1
        case rel => exact ⟨k + 1, pre, by go_num, ⟨by have := HN.out; omega⟩, ⟨by rw [HO.out, if_neg HFV.out, List.append_nil]; exact HP.out⟩, HJ1, ⟨by have := HSW.out; simp; omega⟩, ⟨fun q hq => ((World.grownBy_alloc wr _ none).block q (by have := HSW.out; have := HSZ.out; omega) (by simp)).trans (HKW.out q hq)⟩, ⟨HVW.out.alloc _⟩⟩
        case measure => omega
end Go.Proofs.Ytfhmepdbbhcncaa.P
