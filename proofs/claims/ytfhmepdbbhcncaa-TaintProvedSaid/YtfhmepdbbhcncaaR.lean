import Derived.StillTail
import Derived.StillTailTactics
import Derived.OrdersIn
import Derived.TacticsIn
import Derived.Lib.QuietBelow
namespace Go.Proofs.YtfhmepdbbhcncaaR
open Go
set_option linter.unusedVariables false
set_option linter.unusedSimpArgs false
section
variable {P : Program} {ops : Array Oper} {Q : Exit → Act → World → Prop} {md : Region.Mode}

/-- One operation, in a round of the widest fence. -/
theorem op_round {o : Oper} {a : Act} {w : World} {K : Act → World → Prop} (n l : Nat) (hd : ∀ c, o.op ≠ .defer c) (h : o.wp P a w K Q) : o.wpIn (Fence.wide.inRound l) n P a w K Q := by
  refine ⟨fun _ _ => trivial, ?_⟩
  rw [Oper.semAt_eq _ _ _ hd]
  have h' : o.upon P a K Q ((execOp a.eval o).run P w) := h
  generalize (execOp a.eval o).run P w = r at h' ⊢
  cases r with
  | ok nx w1 =>
    cases nx with
    | enter f args => exact ⟨fun e => (by cases e), callsIn_wide.2 h'⟩
    | row row args =>
      refine ⟨fun e => (by cases e), fun c cs _ => ?_⟩
      obtain ⟨v, w2, hr, hs⟩ := h' c cs
      exact ⟨v, w2, hr, stepsIn_wide.2 hs⟩
    | value v => exact h'
    | skip => exact h'
    | defer d => exact h'
    | _ => exact h'.elim
  | halt s w1 =>
    cases s <;> exact h'

theorem any_round (n l : Nat) (hd : ∀ (i : Nat) (o : Oper), ops[i]? = some o → ∀ c, o.op ≠ .defer c) (hQ : ¬ LetsOut Q) : ∀ (fuel : Nat) (listed : Array Bool) (a : Act) (w : World),
    wpAny P md ops Q fuel listed a w → wpAnyIn (Fence.wide.inRound l) n P md ops Q fuel listed a w
  | 0, _, _, _, h => h
  | fuel + 1, listed, a, w, h => by
    refine ⟨h.1, fun i hi => ?_⟩
    have h2 := h.2 i hi
    unfold wpOp at h2
    unfold wpOpIn
    cases ho : ops[i]? with
    | none => rw [ho] at h2; exact any_round n l hd hQ fuel _ _ _ h2
    | some o =>
      rw [ho] at h2
      simp only [] at h2 ⊢
      split
      · rename_i hw
        rw [if_pos hw] at h2
        rcases h2 with h3 | h3
        · exact op_round n l (hd i o ho) (Oper.wp_mono (fun a' w' h' => any_round n l hd hQ fuel _ a' w' h') h3)
        · exact absurd h3.2 hQ
      · rename_i hw
        rw [if_neg hw] at h2
        exact ⟨fun _ _ => trivial, any_round n l hd hQ fuel _ _ _ h2⟩

/-- A region in a round: what holds for it outside of one, holds in it. -/
theorem region_round {id : Nat} {a : Act} {w : World} (n l : Nat) (hm : P.follows .mixedOrders = true) (hd : ∀ (i : Nat) (o : Oper), ops[i]? = some o → ∀ c, o.op ≠ .defer c) (hQ : ¬ LetsOut Q)
    (h : wpAny P .any ops Q ops.size (Array.replicate ops.size false) a { w with drawn := w.drawn + 1 }) : (Code.region id ops true).wpIn (Fence.wide.inRound l) n P Q a w :=
  wpIn_region_any hm (any_round n l hd hQ _ _ _ _ h)

def noDefer (o : Oper) : Bool := match o.op with | .defer _ => false | _ => true
theorem noDefer_all {l : List Oper} (h : l.all noDefer = true) : ∀ (i : Nat) (o : Oper), l.toArray[i]? = some o → ∀ c, o.op ≠ .defer c := by
  intro i o ho c hc
  have := List.all_eq_true.1 h o (List.mem_of_getElem? (by simpa using ho))
  simp [noDefer, hc] at this

/-- The first operations only read, in whatever order; the others follow one by one: in a round. -/
theorem tail_round {id : Nat} {a : Act} {w : World} {l : List Oper} (n k : Nat) (q : Nat) (hm : P.follows .mixedOrders = true) (hdl : l.all noDefer = true) (hB : Region.lexTailB .any l.toArray q = true) (hQ : ¬ LetsOut Q)
    (h : wpStill P l.toArray w.drew (fun a' => wpList P l.toArray Q (l.drop q) a' w.drew) (l.take q) a) : (Code.region id l.toArray true).wpIn (Fence.wide.inRound k) n P Q a w := by
  refine region_round n k hm (noDefer_all hdl) hQ ?_
  simp only [Region.lexTailB, Bool.and_eq_true, decide_eq_true_eq] at hB
  obtain ⟨⟨⟨⟨b1, b2⟩, b3⟩, b4⟩, b5⟩ := hB
  have s0 : l.toArray.size = l.length := rfl
  have s1 : (l.take q).length = q := by simp; omega
  have s2 : (l.drop q).length = l.toArray.size - q := by simp
  have i0 : HeadInv .any l.toArray q (Array.replicate l.toArray.size false) := by
    refine ⟨by simp, fun j oj _ hl => ?_, fun t _ ht => ?_⟩
    · rw [getD_replicate_false] at hl; cases hl
    · exact getD_in (by simpa using ht) (getD_replicate_false _ _)
  have H1 := wpAnyL_lex (P := P) (md := .any) (g := l.toArray.size - q) b1 b3 b4 b2 (l.take q) 0 _ a (fun j hj => by rw [s1] at hj; simp [hj]) (by rw [s1, Nat.zero_add]) i0 (by rw [s1]; exact b5) h
  have H2 : ∀ listed a', (Region.seqB .any l.toArray (l.toArray.size - q) q listed = true ∧ wpList P l.toArray Q (l.drop q) a' w.drew) → wpAny P .any l.toArray Q (l.toArray.size - q) listed a' w.drew := fun listed a' hL => by
    have := wpAny_of_seq (P := P) (md := .any) (Q' := Q) (l.drop q) q listed a' w.drew (fun j => by simp [List.getElem?_drop]) (by rw [s2]; exact hL.1) hL.2
    rw [s2] at this
    exact this
  have H3 := wpAny_of_head H2 _ _ _ H1
  rw [s1, show q + (l.toArray.size - q) = l.toArray.size by omega] at H3
  exact H3

/-- All operations only read, but for callees that lay blocks: in a round. -/
theorem below_round {id : Nat} {a : Act} {w : World} {l : List Oper} (n k : Nat) (hm : P.follows .mixedOrders = true) (hdl : l.all noDefer = true) (hB : Region.lexB .any l.toArray = true) (hQ : ¬ LetsOut Q)
    (h : wpQuiet P l.toArray (fun w' => ∃ p : Regrown, w' = Go.Sort.grow (redrawn w p.d) p.os) (fun a' => ∀ w', (∃ p : Regrown, w' = Go.Sort.grow (redrawn w p.d) p.os) → Q .normal a' w') l a) : (Code.region id l.toArray true).wpIn (Fence.wide.inRound k) n P Q a w := by
  refine region_round n k hm (noDefer_all hdl) hQ ?_
  simp only [Region.lexB, Bool.and_eq_true] at hB
  refine wpAny_of_quiet (C := fun w' => ∃ p : Regrown, w' = Go.Sort.grow (redrawn w p.d) p.os) (Q := fun a' => ∀ w', (∃ p : Regrown, w' = Go.Sort.grow (redrawn w p.d) p.os) → Q .normal a' w') (fun _ w' hw' h => h w' hw') _ _ _ _ ⟨⟨w.drawn + 1, #[]⟩, by rw [Go.Sort.grow_empty]; rfl⟩ ?_
  have := wpAnyQ_lex (md := .any) hB.1 l 0 (Array.replicate l.toArray.size false) a (by simp) (by simpa using hB.2) h
  simpa using this
end
end Go.Proofs.YtfhmepdbbhcncaaR
