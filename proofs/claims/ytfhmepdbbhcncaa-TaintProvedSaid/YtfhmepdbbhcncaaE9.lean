import Derived.Test.YtfhmepdbbhcncaaE8
import Derived.StillTailTactics
import Derived.Test.YtfhmepdbbhcncaaR
import Derived.BigQuiet
import Derived.Sort.CutIn
namespace Go.Proofs.Ytfhmepdbbhcncaa.P
open Go.RowKit Go.Shelf Go.Proofs.YtfhmepdbbhcncaaW.PrintWords Go.Proofs.YtfhmepdbbhcncaaW.PrintLast Go.Proofs.YtfhmepdbbhcncaaW.PrintMore Go.Proofs.YtfhmepdbbhcncaaM Go.Proofs.YtfhmepdbbhcncaaR
set_option linter.unusedVariables false
set_option linter.unusedSimpArgs false

def encK (v : Int) : Value := .agg #[.int .i64 v]
theorem keyOK : KeyOK Try.prog 111 encK where
  chk := fun e k w => by kernel_rfl
  eq := fun a b w => by
    have h : (Op.equal 111 (encK a) (encK b)).run Try.prog w = .ok (a == b) w := by
      unfold encK Op.equal Op.maxDepth
      refine eqA_of Try.underlying111 (by kernel_rfl) ?_
      exact eqf_last (by rfl) (by go_simp; rfl) (by go_simp; rfl) (by go_simp)
    rw [h]
    congr 1
  bits := fun a => by simp [encK, Instr.sameBits]
  und := ⟨_, Try.underlying111, .inl (fun a b => rfl)⟩

/-- one move: what it makes of the arrivals -/
def bodyF (step : Int → S58 → Int × Bool) (may : S58 → Bool) (v : Int) (s : List Int × (Int → Option Int)) (x : Int × S58) : List Int × (Int → Option Int) :=
  if (step (s.1.getD v.toNat 0) x.2).2 = true ∧ may x.2 = true ∧ (step (s.1.getD v.toNat 0) x.2).1 < s.1.getD x.2.f1.toNat 0 then
    (s.1.set x.2.f1.toNat (step (s.1.getD v.toNat 0) x.2).1, fun k => if k = x.2.f1 then some x.1 else s.2 k) else s
/-- the search, vessel by vessel -/
def runL (step : Int → S58 → Int × Bool) (may : S58 → Bool) (l : List S58) : Nat → List Int → List Int × (Int → Option Int) → List Int × (Int → Option Int)
  | 0, _, s => s
  | k + 1, left, s =>
    if left = [] then s else
      let v := leastF (fun v => s.1.getD v.toNat 0) left
      if s.1.getD v.toNat 0 = 1048576 then s else runL step may l k (left.filter fun o => !(o == v)) ((outsTo v l l.length).foldl (bodyF step may v) s)
def come0 (sv st : Int) : List Int := (List.replicate 20 1048576).set sv.toNat st
def runC (step : Int → S58 → Int × Bool) (may : S58 → Bool) (n : Int) (l : List S58) (sv st : Int) : List Int × (Int → Option Int) :=
  runL step may l n.toNat ((List.range n.toNat).map fun (i : Nat) => (i : Int)) (come0 sv st, fun _ => none)

/-- Between the steps of run: the three boxes; nothing old has turned but block B. -/
structure RunW (w W : World) (B gs gm : Nat) (bm lm : Array Value) : Prop where
  x : Blk W w.heap.size 81 #[.pointer (some ⟨B, 0, none⟩)]
  s : Blk W (w.heap.size + 1) 86 #[.func (.func gs) #[] #[]]
  m : Blk W (w.heap.size + 1 + 1) 78 #[.func (.func gm) bm lm]
  g : w.grownBy W (some B)
  sz : w.heap.size + 3 ≤ W.heap.size
theorem RunW.kept {w W W' : World} {B gs gm : Nat} {bm lm : Array Value} {row : Option Nat} (h : RunW w W B gs gm bm lm) (hB : B < w.heap.size) (hg : W.grownBy W' row) (hrow : ∀ r, row = some r → r = B ∨ w.heap.size + 3 ≤ r) : RunW w W' B gs gm bm lm := by
  have ne : ∀ k, w.heap.size ≤ k → k < w.heap.size + 3 → some k ≠ row := fun k h1 h2 e => by rcases hrow k e.symm with h3 | h3 <;> omega
  refine ⟨h.x.kept hg (ne _ (by omega) (by omega)), h.s.kept hg (ne _ (by omega) (by omega)), h.m.kept hg (ne _ (by omega) (by omega)), ⟨hg.os.trans h.g.os, hg.tape.trans h.g.tape, hg.output.trans h.g.output, Nat.le_trans h.g.size hg.size, fun k hk hne => ?_⟩, Nat.le_trans h.sz hg.size⟩
  refine (hg.block k (Nat.lt_of_lt_of_le hk h.g.size) (fun e => ?_)).trans (h.g.block k hk hne)
  rcases hrow k e.symm with h3 | h3
  · exact hne (by rw [h3])
  · omega
theorem RunW.below {w W W' : World} {B gs gm : Nat} {bm lm : Array Value} (h : RunW w W B gs gm bm lm) (hB : B < w.heap.size) (hb : Below W.heap.size W W') : RunW w W' B gs gm bm lm :=
  h.kept hB (grown_of_below hb none) (fun r e => by cases e)
theorem RunW.alloc {w W : World} {B gs gm : Nat} {bm lm : Array Value} (h : RunW w W B gs gm bm lm) (hB : B < w.heap.size) (o : Obj) : RunW w (W.alloc o) B gs gm bm lm :=
  h.kept hB (World.grownBy_alloc W o none) (fun r e => by cases e)
theorem RunW.set {w W : World} {B gs gm : Nat} {bm lm : Array Value} (h : RunW w W B gs gm bm lm) (hB : B < w.heap.size) (j : Nat) (v : Value) : RunW w (W.setCell ⟨B, j, none⟩ v) B gs gm bm lm :=
  h.kept hB (grown_set W B j v) (fun r e => by cases e; exact .inl rfl)


/-- Between the rounds of run. -/
structure RunI (w W : World) (B gs gm : Nat) (bm lm : Array Value) (n : Int) (sl : Value) (sv st : Int) (M : Nat) (s : List Int × (Int → Option Int)) : Prop where
  S : SAt W B n sl sv st s.1 (.map (some M))
  Mp : ∃ N, MapAt W encK M N (fun k => (s.2 k).map (Value.int .i64))
  W : RunW w W B gs gm bm lm
  ge : w.heap.size + 3 ≤ M
theorem RunI.ltM {w W : World} {B gs gm : Nat} {bm lm : Array Value} {n : Int} {sl : Value} {sv st : Int} {M : Nat} {s : List Int × (Int → Option Int)} (h : RunI w W B gs gm bm lm n sl sv st M s) : M < W.heap.size := by
  obtain ⟨N, hN⟩ := h.Mp; exact hN.lt
theorem RunI.kept {w W W' : World} {B gs gm : Nat} {bm lm : Array Value} {n : Int} {sl : Value} {sv st : Int} {M : Nat} {s : List Int × (Int → Option Int)} {row : Option Nat} (h : RunI w W B gs gm bm lm n sl sv st M s) (hB : B < w.heap.size) (hg : W.grownBy W' row) (hrow : ∀ r, row = some r → M < r) : RunI w W' B gs gm bm lm n sl sv st M s := by
  obtain ⟨N, hN⟩ := h.Mp
  have hge := h.ge
  refine ⟨h.S.kept hg (fun e => by have := hrow _ e.symm; omega), ⟨N, hN.move (hg.block M hN.lt (fun e => by have := hrow _ e.symm; omega))⟩, h.W.kept hB hg (fun r e => .inr (by have := hrow r e; omega)), hge⟩
theorem RunI.below {w W W' : World} {B gs gm : Nat} {bm lm : Array Value} {n : Int} {sl : Value} {sv st : Int} {M : Nat} {s : List Int × (Int → Option Int)} (h : RunI w W B gs gm bm lm n sl sv st M s) (hB : B < w.heap.size) (hb : Below W.heap.size W W') : RunI w W' B gs gm bm lm n sl sv st M s :=
  h.kept hB (grown_of_below hb none) (fun r e => by cases e)

/-- What run leaves. -/
def RunPost (B : Nat) (n : Int) (s : Value) (sv st : Int) (w : World) (r : List Int × (Int → Option Int)) (e : Ending) (w' : World) : Prop :=
  ∃ M N, (∃ v, e = .returned v) ∧ SAt w' B n s sv st r.1 (.map (some M)) ∧ MapAt w' encK M N (fun k => (r.2 k).map (Value.int .i64)) ∧ w.grownBy w' (some B) ∧ w.heap.size ≤ M


theorem run_leaves {w : World} {B gs gm : Nat} {bm lm : Array Value} {n : Int} {sl : Value} {sv st : Int} {M : Nat} {s : List Int × (Int → Option Int)} (hB : B < w.heap.size) (tmps : Array Value) : ∀ (Ds : List Nat) (W : World), Ds.Nodup → (∀ D ∈ Ds, M < D ∧ W.heap[D]? = some (.deferred (some []))) → RunI w W B gs gm bm lm n sl sv st M s →
    LeavesInM Fence.wide 4 Try.prog Try.f61 tmps (RunPost B n sl sv st w s) (Ds.map fun D => { target := .collected D, args := #[] }) .returning W
  | [], W, _, _, h => by
    obtain ⟨N, hN⟩ := h.Mp
    exact ⟨_, results_none rfl _ _ _, M, N, ⟨_, rfl⟩, h.S, hN, h.W.g, by have := h.ge; omega⟩
  | D :: Ds, W, hnd, hD, h => by
    have hD0 := hD D (by simp)
    rw [List.nodup_cons] at hnd
    refine ⟨by simp, .inl ⟨D, _, rfl, run_takeDeferred hD0.2, run_leaves hB tmps Ds _ hnd.2 (fun E hE => ?_) (h.kept hB (grownBy_putObj' W D _) (fun r e => by cases e; exact hD0.1))⟩⟩
    have hE0 := hD E (by simp [hE])
    refine ⟨hE0.1, ((grownBy_putObj' W D (.deferred none)).block E (Array.getElem?_eq_some_iff.1 hE0.2).1 (fun e => ?_)).trans hE0.2⟩
    injection e with e
    exact hnd.1 (e ▸ hE)


/-- Within a round of run: between two moves out of a vessel. -/
structure RunJ (w W5 W : World) (B gs gm : Nat) (bm lm : Array Value) (n : Int) (sl : Value) (sv st : Int) (M bL capL bV : Nat) (ys : List Int) (v : Int) (Ds : List Nat) (s : List Int × (Int → Option Int)) : Prop where
  I : RunI w W B gs gm bm lm n sl sv st M s
  row : RowC W bL 3 capL ys
  ds : ∀ D ∈ Ds, M < D ∧ D < W5.heap.size ∧ W.heap[D]? = some (.deferred (some []))
  bv : Blk W bV 3 #[.int .i64 v]
  sz : W5.heap.size ≤ W.heap.size
theorem RunJ.kept {w W5 W W' : World} {B gs gm : Nat} {bm lm : Array Value} {n : Int} {sl : Value} {sv st : Int} {M bL capL bV : Nat} {ys : List Int} {v : Int} {Ds : List Nat} {s : List Int × (Int → Option Int)} {row : Option Nat}
    (h : RunJ w W5 W B gs gm bm lm n sl sv st M bL capL bV ys v Ds s) (hB : B < w.heap.size) (hM : M < W5.heap.size) (hL : bL < W5.heap.size) (hV : bV < W5.heap.size) (hg : W.grownBy W' row) (hrow : ∀ r, row = some r → W5.heap.size ≤ r) : RunJ w W5 W' B gs gm bm lm n sl sv st M bL capL bV ys v Ds s :=
  ⟨h.I.kept hB hg (fun r e => by have := hrow r e; omega), h.row.kept hg (fun e => by have := hrow _ e.symm; omega), fun D hD => ⟨(h.ds D hD).1, (h.ds D hD).2.1, (hg.block D (Array.getElem?_eq_some_iff.1 (h.ds D hD).2.2).1 (fun e => by have := hrow _ e.symm; have := (h.ds D hD).2.1; omega)).trans (h.ds D hD).2.2⟩,
   h.bv.kept hg (fun e => by have := hrow _ e.symm; omega), Nat.le_trans h.sz hg.size⟩


theorem RunJ.come {w W5 W : World} {B gs gm : Nat} {bm lm : Array Value} {n : Int} {sl : Value} {sv st : Int} {M bL capL bV : Nat} {ys : List Int} {v : Int} {Ds : List Nat} {s : List Int × (Int → Option Int)}
    (h : RunJ w W5 W B gs gm bm lm n sl sv st M bL capL bV ys v Ds s) (hB : B < w.heap.size) (hL : M < bL) (hV : M < bV) (j : Nat) (hj : j < 20) (t : Int) : RunJ w W5 (W.setCell ⟨B, 4 + j, none⟩ (.int .i64 t)) B gs gm bm lm n sl sv st M bL capL bV ys v Ds (s.1.set j t, s.2) := by
  have hg := grown_set W B (4 + j) (.int .i64 t)
  have hge := h.I.ge
  obtain ⟨N, hN⟩ := h.I.Mp
  refine ⟨⟨h.I.S.setCome j hj t, ⟨N, hN.move (hg.block M hN.lt (by simp; omega))⟩, h.I.W.set hB _ _, hge⟩, h.row.kept hg (by simp; omega), fun D hD => ⟨(h.ds D hD).1, (h.ds D hD).2.1, (hg.block D (Array.getElem?_eq_some_iff.1 (h.ds D hD).2.2).1 (by have := (h.ds D hD).1; simp; omega)).trans (h.ds D hD).2.2⟩, h.bv.kept hg (by simp; omega), Nat.le_trans h.sz hg.size⟩
theorem RunJ.mapped {w W5 W W' : World} {B gs gm : Nat} {bm lm : Array Value} {n : Int} {sl : Value} {sv st : Int} {M bL capL bV N : Nat} {ys : List Int} {v : Int} {Ds : List Nat} {s : List Int × (Int → Option Int)} {f : Int → Option Value} {f2 : Int → Option Int}
    (h : RunJ w W5 W B gs gm bm lm n sl sv st M bL capL bV ys v Ds s) (hB : B < w.heap.size) (hL : M < bL) (hV : M < bV) (hg : W.grownBy W' (some M)) (hm : MapAt W' encK M N f) (hf : ∀ k, f k = (f2 k).map (Value.int .i64)) : RunJ w W5 W' B gs gm bm lm n sl sv st M bL capL bV ys v Ds (s.1, f2) := by
  have hge := h.I.ge
  refine ⟨⟨h.I.S.kept hg (by simp; omega), ⟨N, (funext hf : f = fun k => (f2 k).map (Value.int .i64)) ▸ hm⟩, h.I.W.kept hB hg (fun r e => .inr (by cases e; omega)), hge⟩, h.row.kept hg (by simp; omega), fun D hD => ⟨(h.ds D hD).1, (h.ds D hD).2.1, (hg.block D (Array.getElem?_eq_some_iff.1 (h.ds D hD).2.2).1 (by have := (h.ds D hD).1; simp; omega)).trans (h.ds D hD).2.2⟩, h.bv.kept hg (by simp; omega), Nat.le_trans h.sz hg.size⟩


theorem runL_never {step : Int → S58 → Int × Bool} {may : S58 → Bool} {l : List S58} {k : Nat} {s : List Int × (Int → Option Int)} (left : List Int) (h1 : left ≠ []) (v : Int) (hv : leastF (fun v => s.1.getD v.toNat 0) left = v) (h : s.1.getD v.toNat 0 = 1048576) : runL step may l (k + 1) left s = s := by
  rw [runL, if_neg h1]
  show (if s.1.getD (leastF (fun v => s.1.getD v.toNat 0) left).toNat 0 = 1048576 then s else _) = s
  rw [hv, if_pos h]
theorem runL_step {step : Int → S58 → Int × Bool} {may : S58 → Bool} {l : List S58} {k : Nat} {s : List Int × (Int → Option Int)} (left : List Int) (h1 : left ≠ []) (v : Int) (hv : leastF (fun v => s.1.getD v.toNat 0) left = v) (h : ¬ s.1.getD v.toNat 0 = 1048576) : runL step may l (k + 1) left s = runL step may l k (left.filter fun o => !(o == v)) ((outsTo v l l.length).foldl (bodyF step may v) s) := by
  rw [runL, if_neg h1]
  show (if s.1.getD (leastF (fun v => s.1.getD v.toNat 0) left).toNat 0 = 1048576 then s else runL step may l k (left.filter fun o => !(o == leastF (fun v => s.1.getD v.toNat 0) left)) ((outsTo (leastF (fun v => s.1.getD v.toNat 0) left) l l.length).foldl (bodyF step may (leastF (fun v => s.1.getD v.toNat 0) left)) s)) = _
  rw [hv, if_neg h]

theorem KpO.trans {B bx bv : Nat} {X Y Z : World} (h : KpO B bx bv X Y) (k : KpO B bx bv Y Z) : KpO B bx bv X Z := ⟨Nat.le_trans h.1 k.1, fun q hq => (k.2.1 q hq).trans (h.2.1 q hq), k.2.2.1.trans h.2.2.1, k.2.2.2.trans h.2.2.2⟩
def updT (T : Array Value) (x : OutMove) (b : Nat) : Array Value := (((T.setIfInBounds 77 (.int .i64 x.1.1)).setIfInBounds 78 (enc58 x.1.2)).setIfInBounds 10 (.int .i64 x.1.1)).setIfInBounds 11 (.pointer (some ⟨b, 0, none⟩))
def mvC (m : S58) : Array Value := #[.int .i64 m.f0, .int .i64 m.f1, .int .i64 m.f2.f0, .int .i64 m.f2.f1]

theorem rangeOut {g : Operand} {assign body : Code} {Q : Exit → Act → World → Prop} {a : Act} {w1 : World} {lb : Array Value} {B bx bv : Nat} {S : List OutMove → Prop} {N : Nat}
    (hg : a.eval g = .func (.func 84) #[] lb) (hseq : SeqStopsK Fence.wide 3 Try.prog 84 lb encO (KpO B bx bv) S (fun _ => True) N w1) (hbx : bx < w1.heap.size) (hbv : bv < w1.heap.size) (hB : B ≤ w1.heap.size)
    (I : List OutMove → World → Prop) (hI : OwnFrom w1.heap.size I) (h0 : I [] w1)
    (hassign : ∀ (l : Nat) (pre : List OutMove) (x : OutMove) (W : World) (K : Act → World → Prop), I pre W → (∀ a' W', KeepsFrom w1.heap.size W W' → KpO B bx bv W W' → I pre W' → (∃ b, w1.heap.size ≤ b ∧ Blk W' b 58 (mvC x.1.2) ∧ a' = { tmps := updT a.tmps x b, defers := [] }) → K a' W') →
      assign.wpIn (Fence.wide.inRound l) 2 Try.prog (Exit.then K (fun _ _ _ => False)) { tmps := (a.tmps.setIfInBounds 77 (.int .i64 x.1.1)).setIfInBounds 78 (enc58 x.1.2), defers := [] } W)
    (hbody : ∀ (l : Nat) (pre : List OutMove) (x : OutMove) (b : Nat) (W : World), I pre W → w1.heap.size ≤ b → Blk W b 58 (mvC x.1.2) → body.wpIn (Fence.wide.inRound l) 2 Try.prog (ownPostG w1.heap.size (KpO B bx bv) I (fun _ _ _ => False) (pre ++ [x]) W) { tmps := updT a.tmps x b, defers := [] } W)
    (hdone : ∀ (D : Nat) (xs : List OutMove) (W : World), w1.heap.size ≤ D → S xs → I xs W → W.heap[D]? = some (.deferred (some [])) → Q .normal { a with defers := { target := .collected D, args := #[] } :: a.defers } W) :
    (Code.rangeFunc g #[77, 78] assign body).wpIn Fence.wide 4 Try.prog Q a w1 := by
  refine wpIn_rangeFunc_ownH (gf := 84) rfl (by decide) hg trivial (enters_of Try.func84 (by kernel_rfl) rfl) hseq KpO.trans ?_ (Below.refl _ _) (fun _ => rfl) I (fun _ _ _ => False) hI (fun _ _ _ _ _ h _ _ => h) h0
    (fun x a' W => ∃ b, w1.heap.size ≤ b ∧ Blk W b 58 (mvC x.1.2) ∧ a' = { tmps := updT a.tmps x b, defers := [] }) ?_ ?_ ?_ hdone (fun _ _ _ _ _ _ h _ => h.elim)
  · intro W l o o' hl ho hc hw
    have hgb := grownBy_putObj' W l o'
    have hne : ∀ k, k < w1.heap.size → (W.putObj l o').heap[k]? = W.heap[k]? := fun k hk =>
      hgb.block k (by have := (Array.getElem?_eq_some_iff.1 ho).1; omega) (by simp; omega)
    exact ⟨hgb.size, fun k hk => hne k (by omega), hne _ hbx, hne _ hbv⟩
  · rintro x a' _ X Y row ⟨b, h1, h2, h3⟩ hg hr
    refine ⟨b, h1, h2.kept hg (fun e => ?_), h3⟩
    obtain ⟨_, o, ho, hc⟩ := hr b e.symm
    rw [show X.heap[b]? = _ from h2] at ho; cases ho; cases hc
  · intro l pre x W K hi hK
    have e : (#[77, 78].zip (encO x)).foldl (fun t (p, v) => t.setIfInBounds p v) a.tmps = (a.tmps.setIfInBounds 77 (.int .i64 x.1.1)).setIfInBounds 78 (enc58 x.1.2) := by simp [encO]
    rw [e]
    exact hassign l pre x W K hi hK
  · rintro l pre x a' W hl _ hi ⟨b, h1, h2, rfl⟩ _
    exact hbody l pre x b W hi h1 h2

attribute [local go_sem] Oper.semAt_some
set_option maxHeartbeats 4000000 in
set_option maxRecDepth 100000 in
theorem run_calls (B : Nat) (n : Int) (A : Option Addr) (c : Nat) (l : List S58) (sv st : Int) (cm0 : List Int) (m0 : Value) (gs gm : Nat) (bm lm : Array Value)
    (step : Int → S58 → Int × Bool) (may : S58 → Bool) (w0 w : World)
    (hS : SAt w B n (.slice A l.length c) sv st cm0 m0) (hn1 : 1 ≤ n) (hn2 : n ≤ 20) (hsv : 0 ≤ sv) (hsv2 : sv < n) (hl : ∀ m ∈ l, 0 ≤ m.f1 ∧ m.f1 < n)
    (hr : Kd.C k58 w0 A l.length l) (hw0 : w0.heap.size ≤ B) (hkeep : ∀ k, k < w0.heap.size → w.heap[k]? = w0.heap[k]?)
    (egs : ∀ args w, (callFunc gs args).run Try.prog w = .ok (.enter gs args) w) (egm : ∀ args w, (callFunc gm args).run Try.prog w = .ok (.enter gm args) w)
    (hstep : ∀ (W : World) (t : Int) (m : S58), Calls Try.prog gs #[.int .i64 t, enc58 m] W fun e w' => e = .returned (.tuple #[.int .i64 (step t m).1, .bool (step t m).2]) ∧ Below W.heap.size W w')
    (hmay : ∀ (W : World) (m : S58), w.grownBy W (some B) → Calls Try.prog gm (bm ++ #[enc58 m] ++ lm) W fun e w' => e = .returned (.bool (may m)) ∧ Below W.heap.size W w') :
    Calls Try.prog 61 #[.pointer (some ⟨B, 0, none⟩), .func (.func gs) #[] #[], .func (.func gm) bm lm] w (RunPost B n (.slice A l.length c) sv st w (runC step may n l sv st)) := by
  have HSTEP := Aside0.mk hstep
  have HMAY := Aside0.mk hmay
  have HR := Aside0.mk hr
  have HKEEP := Aside0.mk hkeep
  have HW0 := Aside0.mk hw0
  have HL := Aside0.mk hl
  have HS := Aside0.mk hS
  clear hstep hmay hr hkeep hw0 hl hS
  refine callsIn_wide.1 (callsIn_of_wp_marks (F := Fence.wide) (n := 4) Try.func61 rfl trivial ?_ rfl)
  refine wpIn_wide.2 ?_
  simp only [Try.ntmps61, List.size_toArray, List.length_cons, List.length_nil, Nat.reduceAdd, Nat.reduceSub, Array.replicate_succ, Array.replicate_zero, List.push_toArray, List.append_toArray, List.nil_append, List.cons_append]
  have hBlt := HS.out.lt
  obtain ⟨w1, hclr, HS1, HW1⟩ : ∃ w1, (∀ ty, (Builtin.clear_ #[28] ty #[.slice (some ⟨B, 4, none⟩) 20 20]).run Try.prog (((w.alloc (.cells #[.pointer (some ⟨B, 0, none⟩)] 81)).alloc (.cells #[.func (.func gs) #[] #[]] 86)).alloc (.cells #[.func (.func gm) bm lm] 78)) = .ok (.tuple #[]) w1) ∧
      (∃ cm, SAt w1 B n (.slice A l.length c) sv st cm m0) ∧ RunW w w1 B gs gm bm lm := by
    have HB1 := HS.out.alloc (.cells #[.pointer (some ⟨B, 0, none⟩)] 81) |>.alloc (.cells #[.func (.func gs) #[] #[]] 86) |>.alloc (.cells #[.func (.func gm) bm lm] 78)
    refine ⟨_, fun ty => Lib.run_clear_slice (P := Try.prog) _ 28 2 ty (.int .i64 0) Try.underlying28 (fun w => by kernel_rfl) rfl rfl B 4 20 20 (by omega) (fun j hj => by rw [HB1.cm j hj]; rfl) (fun j hj => HB1.fz _), ?_, ?_⟩
    · have : ∀ (k : Nat) (W : World) (cm : List Int) (v : Nat), v + k ≤ 20 → SAt W B n (.slice A l.length c) sv st cm m0 → ∃ cm', SAt (W.setCells B (4 + v) (List.replicate k (.int .i64 0))) B n (.slice A l.length c) sv st cm' m0 := by
        intro k
        induction k with
        | zero => exact fun W cm v _ h => ⟨cm, h⟩
        | succ k ih => exact fun W cm v hv h => ih _ _ (v + 1) (by omega) (h.setCome v (by omega) 0)
      exact this 20 _ _ 0 (by omega) HB1
    · have H3 : RunW w (((w.alloc (.cells #[.pointer (some ⟨B, 0, none⟩)] 81)).alloc (.cells #[.func (.func gs) #[] #[]] 86)).alloc (.cells #[.func (.func gm) bm lm] 78)) B gs gm bm lm := by
        have b1 := Blk.new w #[.pointer (some ⟨B, 0, none⟩)] 81
        have b2 := Blk.new (w.alloc (.cells #[.pointer (some ⟨B, 0, none⟩)] 81)) #[.func (.func gs) #[] #[]] 86
        have b3 := Blk.new ((w.alloc (.cells #[.pointer (some ⟨B, 0, none⟩)] 81)).alloc (.cells #[.func (.func gs) #[] #[]] 86)) #[.func (.func gm) bm lm] 78
        simp only [World.size_alloc] at b2 b3
        exact ⟨(b1.alloc _).alloc _, b2.alloc _, b3, ((World.grownBy_alloc w _ _).trans (World.grownBy_alloc _ _ _)).trans (World.grownBy_alloc _ _ _), by simp⟩
      have : ∀ (k : Nat) (W : World) (v : Nat), RunW w W B gs gm bm lm → RunW w (W.setCells B v (List.replicate k (.int .i64 0))) B gs gm bm lm := by
        intro k
        induction k with
        | zero => exact fun W v h => h
        | succ k ih => exact fun W v h => ih _ _ (h.set hBlt v _)
      exact this 20 _ 4 H3
  obtain ⟨cm1, HS1⟩ := HS1
  go_wp2_with fail
  go_loopg [18] 20 (fun kq v18 w' => ∃ (k : Nat) (cm : List Int), v18 = .int .i64 k ∧ Aside0 (k + kq = 20) ∧ Aside0 (SAt w' B n (.slice A l.length c) sv st cm m0) ∧ Aside0 (∀ j, j < k → cm.getD j 0 = 1048576) ∧ Aside0 (RunW w w' B gs gm bm lm))
  case atStart => exact ⟨0, cm1, rfl, ⟨by omega⟩, ⟨HS1⟩, ⟨fun j hj => absurd hj (by omega)⟩, ⟨HW1⟩⟩
  case round =>
    clear hclr HS1 HW1
    obtain ⟨k, cm, rfl, HN, HSR, HC, HWR⟩ := hrel
    have cx := HWR.out.x.cell 0
    have hx : wr.cell? ⟨w.heap.size, 0, none⟩ = some (.pointer (some ⟨B, 0, none⟩)) := cx
    clear cx
    cases gk with
    | succ k1 =>
      have hk : (k : Int) < 20 := by have := HN.out; omega
      have hck := HSR.out.cm k (by omega)
      have hfk := HSR.out.fz (4 + k)
      go_wp2
      go_roundg k1
      case rel => exact ⟨k + 1, _, by go_num, ⟨by have := HN.out; omega⟩, ⟨HSR.out.setCome k (by omega) 1048576⟩, ⟨fun j hj => by
        have hl2 := HSR.out.len
        by_cases e : j = k
        · subst e; rw [List.getD_eq_getElem?_getD, List.getElem?_set_self (by omega)]; rfl
        · have := HC.out j (by omega); simpa [List.getElem?_set, Ne.symm e] using this⟩, ⟨HWR.out.set hBlt _ _⟩⟩
      case measure => omega
    | zero =>
      have hk : k = 20 := by have := HN.out; omega
      have HCM : Aside0 (cm = List.replicate 20 1048576) := ⟨by
        have hl2 := HSR.out.len
        apply List.ext_getElem
        · simp [hl2]
        · intro j h1 h2
          have := HC.out j (by omega)
          rw [List.getElem_replicate]
          simpa [h1] using this⟩
      clear hk
      have hlt20 : decide ((k : Int) < 20) = false := by have := HN.out; simp; omega
      have hmm := @run_makeMap Try.prog
      have hlB : B < wr.heap.size := HSR.out.lt
      have HS2 := (HSR.out.setMap (.map (some wr.heap.size))).alloc (.map #[] 0)
      have HW2 := (HWR.out.set hBlt 24 (.map (some wr.heap.size))).alloc hBlt (.map #[] 0)
      have HM2 : MapAt ((wr.setCell ⟨B, 24, none⟩ (.map (some wr.heap.size))).alloc (.map #[] 0)) encK wr.heap.size 0 (fun _ => none) := by
        simpa using MapAt.made (wr.setCell ⟨B, 24, none⟩ (.map (some wr.heap.size))) encK
      have hcm := HSR.out.cmap
      have hfm := HSR.out.fz 24
      have hMge : w.heap.size + 3 ≤ wr.heap.size := HWR.out.sz
      go_upto_region 8 with (fail)
      generalize ((wr.setCell ⟨B, 24, none⟩ (.map (some wr.heap.size))).alloc (.map #[] 0)) = w2 at *
      generalize wr.heap.size = M at *
      clear hmm hcm hfm hx HSR HWR HC hlB
      obtain ⟨w3, e3⟩ : ∃ w3, ({ heap := w2.heap, tape := w2.tape, drawn := w2.drawn + 1, os := w2.os, output := w2.output } : World) = w3 := ⟨_, rfl⟩
      have g3 : w2.grownBy w3 none := by rw [← e3]; exact grown_of_below (below_dN (Below.refl _ _) 1) none
      have HS3 := HS2.kept g3 (by simp)
      have HW3 := HW2.kept hBlt g3 (fun r e => by cases e)
      have HM3 := HM2.move (w' := w3) (by rw [← e3])
      have hM3 : w.heap.size + 3 ≤ M := hMge
      clear HS2 HW2 HM2
      have q1 : w3.cell? ⟨w.heap.size, 0, none⟩ = some (.pointer (some ⟨B, 0, none⟩)) := HW3.x.cell 0
      have q2 := HS3.c2
      have q3 := HS3.c3
      have q4 := HS3.cm sv.toNat (by omega)
      have q5 := HS3.fz (4 + sv.toNat)
      have HR4 : Aside0 (RunI w (w3.setCell ⟨B, 4 + sv.toNat, none⟩ (.int .i64 st)) B gs gm bm lm n (.slice A l.length c) sv st M (come0 sv st, fun _ => none)) := ⟨by rw [HCM.out] at HS3; exact HS3.setCome sv.toNat (by omega) st, ⟨0, HM3.move ((grown_set w3 B (4 + sv.toNat) (.int .i64 st)).block _ HM3.lt (by simp; omega))⟩, HW3.set hBlt (4 + sv.toNat) (.int .i64 st), hM3⟩
      clear HS3 HW3 HM3 g3 hMge hM3
      refine wp_region_still_tail 14 (by kernel_rfl) (by kernel_rfl) ?_
      rw [e3]
      simp only [List.take_succ_cons, List.take_zero, List.drop_succ_cons, List.drop_zero]
      have hsv20 : sv < 20 := by omega
      repeat still_step
      refine wpStill_nil ?_
      clear e3
      go_upto_region 9 with (fail)
      generalize (w3.setCell ⟨B, 4 + sv.toNat, none⟩ (.int .i64 st)) = w4 at *
      clear q1 q2 q3 q4 q5
      have x1 : w4.cell? ⟨w.heap.size, 0, none⟩ = some (.pointer (some ⟨B, 0, none⟩)) := HR4.out.W.x.cell 0
      have x2 := HR4.out.S.c0
      go_wp2_with fail
      go_loopg [7, 50] n.toNat (fun kq v7 v50 w' => ∃ (k : Nat), v50 = .int .i64 k ∧ Aside0 (k + kq = n.toNat) ∧ Aside0 (Kd.R (Kd.int .i64) 3 w' w4.heap.size (fun _ => True) v7 ((List.range k).map (fun (i : Nat) => (i : Int)))) ∧ Aside0 (Below w4.heap.size w4 w'))
      case atStart => exact ⟨0, rfl, ⟨by omega⟩, ⟨Kd.R_nil _ _ _ _ _⟩, ⟨Below.refl _ _⟩⟩
      case round =>
        obtain ⟨k2, rfl, HN2, HL2, HB2⟩ := hrel
        cases gk with
        | succ k1 =>
          have hlt : (k2 : Int) < n := by have := HN2.out; omega
          have hszW := HB2.out.size
          go_wp2_with ((with_reducible refine gate_builtin (b := .append) (xs := #[.tmp 53, .tmp 55]) rfl ?_); at_builtin; refine Kd.R_append (Kd.int .i64) (w0 := w4) w4.heap.size rfl (.tmp 53) (.tmp 55) 27 3 (.int .i64 0) 8 rfl Try.underlying27 info3 rfl (by decide) (by omega) u7 ((List.range k2).map (fun (i : Nat) => (i : Int))) (k2 : Int) [.int .i64 k2] (fun _ => True) (fun _ => False) rfl rfl ?aP (fun _ hk => hk.elim) ?aF ?aO ?aB ?aS ?aL ?_; (case aP => exact rfl); (case aB => exact HB2.out); (case aF => exact (fun _ _ => trivial)); (case aO => exact HL2.out); (case aS => exact HB2.out.size); (case aL => simp only [List.length_map, List.length_range]; omega); intro v7 w24 ho hb hg hat; have HO7 := Aside0.mk ho; have HB7 := Aside0.mk hb; clear ho hb hg hat)
          go_roundg k1
          case rel => exact ⟨k2 + 1, by go_num, ⟨by have := HN2.out; omega⟩, ⟨by rw [List.range_succ, List.map_append]; exact HO7.out⟩, HB7⟩
          case measure => omega
        | zero =>
          have hlt : decide ((k2 : Int) < n) = false := by have := HN2.out; simp; omega
          have hk2 : k2 = n.toNat := by have := HN2.out; omega
          obtain ⟨bL, capL, rfl, hbL, hlenL, HRow⟩ := RowC.of_own (Kd.own_of_R HL2.out) (by simp; omega)
          have HI := Aside0.mk (HR4.out.below hBlt HB2.out)
          have HROW := Aside0.mk HRow
          have hMb : M < bL := Nat.lt_of_lt_of_le HR4.out.ltM hbL
          have hlen0 := Aside0.mk hlenL
          have hst0 : w4.heap.size ≤ wr.heap.size := HB2.out.size
          clear HL2 HB2 HR4 hbL hlenL HRow x1 x2 hst0
          go_wp2_with fail
          refine wp_loop_ghost_k (fun kq a W => ∃ (s : List Int × (Int → Option Int)) (left : List Int) (Ds : List Nat) (v9 v58 v59 v60 v61 v62 v63 v64 v65 v66 v67 v68 v69 v70 v71 v72 v73 v74 v75 v76 : Value), a = { tmps := #[Value.pointer (some { block := B, off := 0 }), Value.func (Fn.func gs) #[] #[], Value.func (Fn.func gm) bm lm, Value.pointer (some { block := w.heap.size, off := 0 }), Value.pointer (some { block := w.heap.size + 1, off := 0 }), Value.pointer (some { block := w.heap.size + 1 + 1, off := 0 }), u6, Value.slice (some { block := bL, off := 0 }) left.length capL, u8, v9, undef, undef, undef, undef, Value.pointer (some { block := B, off := 0 }), Value.pointer (some { block := B, off := 0 }), Value.pointer (some { block := B, off := 4 }), Value.slice (some { block := B, off := 4 }) 20 20, Value.int IntKind.i64 (k : Int), Value.bool false, u20, u21, u22, u23, u24, u25, u26, Value.pointer (some { block := B, off := 0 }), Value.map (some M), Value.pointer (some { block := B, off := 0 }), Value.pointer (some { block := B, off := 24 }), Value.pointer (some { block := B, off := 0 }), Value.pointer (some { block := B, off := 0 }), Value.pointer (some { block := B, off := 0 }), Value.pointer (some { block := B, off := 2 }), Value.pointer (some { block := B, off := 2 }), Value.int IntKind.i64 sv, Value.pointer (some { block := B, off := 0 }), Value.pointer (some { block := B, off := 0 }), Value.pointer (some { block := B, off := 2 }), Value.pointer (some { block := B, off := 3 }), Value.int IntKind.i64 st, Value.pointer (some { block := B, off := 0 }), Value.pointer (some { block := B, off := 4 }), Value.pointer (some { block := B, off := 4 + sv.toNat }), Value.pointer (some { block := B, off := 0 }), Value.pointer (some { block := B, off := 0 }), Value.pointer (some { block := B, off := 0 }), Value.pointer (some { block := B, off := 0 }), Value.int IntKind.i64 n, Value.int IntKind.i64 (max n 0), Value.bool (decide (max n 0 < n)), u52, u53, u54, u55, u56, u57, v58, v59, v60, v61, v62, v63, v64, v65, v66, v67, v68, v69, v70, v71, v72, v73, v74, v75, v76, undef, undef, undef, undef, undef, undef, undef, undef, undef, undef, undef, undef, undef, undef, undef, undef, undef, undef, undef, undef, undef, undef, undef, undef, undef, undef, undef, undef, undef, undef, undef, undef, undef, undef, undef, undef, undef, undef, undef, undef, undef, undef, undef, undef, undef, undef], defers := Ds.map (fun D => { target := .collected D, args := #[] }) } ∧
              Aside0 (RunI w W B gs gm bm lm n (.slice A l.length c) sv st M s) ∧ Aside0 (RowC W bL 3 capL left) ∧ Aside0 (Ds.Nodup ∧ ∀ D ∈ Ds, M < D ∧ W.heap[D]? = some (.deferred (some []))) ∧ Aside0 (∀ v ∈ left, 0 ≤ v ∧ v < n) ∧ Aside0 (runL step may l kq left s = runC step may n l sv st) ∧ Aside0 (left.length ≤ kq)) n.toNat ?_ ?_
          · refine ⟨_, (List.range k2).map (fun (i : Nat) => (i : Int)), [], undef, undef, undef, undef, undef, undef, undef, undef, undef, undef, undef, undef, undef, undef, undef, undef, undef, undef, undef, undef, ?_, HI, HROW, ⟨by simp⟩, ⟨fun v hv => by simp at hv; omega⟩, ⟨by rw [hk2]; rfl⟩, ⟨by simp; omega⟩⟩
            simp only [List.length_map, List.length_range, hk2, List.map_nil]
          · rintro kq _ WR ⟨s, left, Ds, v9, v58, v59, v60, v61, v62, v63, v64, v65, v66, v67, v68, v69, v70, v71, v72, v73, v74, v75, v76, rfl, HIR, HRR, HDR, HVR, HTR, HKR⟩ J K hJ hK
            cases left with
            | nil =>
              go_wp2_with fail
              exact run_leaves hBlt _ Ds WR HDR.out.1 HDR.out.2 (by have h := HTR.out; have e : runL step may l kq [] s = s := (by cases kq <;> simp [runL]); rw [e] at h; rw [← h]; exact HIR.out)
            | cons x xs =>
              have hx1 : WR.cell? ⟨w.heap.size, 0, none⟩ = some (.pointer (some ⟨B, 0, none⟩)) := HIR.out.W.x.cell 0
              have hl1 : decide ((xs.length : Int) + 1 > 0) = true := decide_eq_true (by omega)
              have hl2 : decide (((xs.length + 1 : Nat) : Int) > 0) = true := by simp
              have HLEAST := Lib.hid (least76 77 #[.pointer (some ⟨w.heap.size, 0, none⟩)] (fun v => s.1.getD v.toNat 0) (some ⟨bL, 0, none⟩) capL x xs WR (enters_of Try.func77 (by kernel_rfl) rfl) HRR.out.reads HRR.out.le
                (fun W y hy hb => come_call W w.heap.size B n (.slice A l.length c) sv st s.1 (.map (some M)) y (HVR.out y hy).1 (by have := (HVR.out y hy).2; omega) ((HIR.out.below hBlt hb).W.x.cell 0) (HIR.out.below hBlt hb).S))
              obtain ⟨v, hvl⟩ : ∃ v, leastF (fun v => s.1.getD v.toNat 0) (x :: xs) = v := ⟨_, rfl⟩
              rw [hvl] at HLEAST
              have hvm : v ∈ x :: xs := by rw [← hvl]; exact leastF_mem _ xs x
              have hv0 := (HVR.out v hvm).1
              have hvn := (HVR.out v hvm).2
              have hv20 : v < 20 := by omega
              have HVL := Lib.hid hvl
              have HVM := Lib.hid hvm
              clear hvl hvm
              go_upto_region 17 with (go_at_call 76; refine (HLEAST.out).mono ?_; rintro e W2 ⟨rfl, hb2⟩; have HB2 := Aside0.mk hb2; clear hb2)
              have HI2 := HIR.out.below hBlt HB2.out
              have HR2 := HRR.out.below HB2.out HRR.out.lt
              have HD2 := Aside0.mk (show ∀ D ∈ Ds, M < D ∧ D < W2.heap.size ∧ W2.heap[D]? = some (.deferred (some [])) from fun D hD => by
                have h1 := HDR.out.2 D hD
                have h2 := (Array.getElem?_eq_some_iff.1 h1.2).1
                exact ⟨h1.1, Nat.lt_of_lt_of_le h2 HB2.out.size, (HB2.out.block D h2).trans h1.2⟩)
              have HND := Aside0.mk HDR.out.1
              clear HLEAST HIR HRR HDR HB2 hx1
              have HI3 := Aside0.mk (HI2.kept hBlt (World.grownBy_alloc W2 (.cells #[.int .i64 v] 3) none) (fun r e => by cases e))
              have HR3 := Aside0.mk (HR2.kept (World.grownBy_alloc W2 (.cells #[.int .i64 v] 3) none) (by simp))
              have HD3 := Aside0.mk (show ∀ D ∈ Ds, M < D ∧ D < (W2.alloc (.cells #[.int .i64 v] 3)).heap.size ∧ (W2.alloc (.cells #[.int .i64 v] 3)).heap[D]? = some (.deferred (some [])) from fun D hD => by
                have h1 := HD2.out D hD
                exact ⟨h1.1, by simp; omega, ((World.grownBy_alloc W2 (.cells #[.int .i64 v] 3) none).block D h1.2.1 (by simp)).trans h1.2.2⟩)
              have HV3 := Aside0.mk (Blk.new W2 #[.int .i64 v] 3)
              have hMV : M < W2.heap.size := HI2.ltM
              have hLV : bL < W2.heap.size := HR2.lt
              have hszV : W2.heap.size < (W2.alloc (.cells #[.int .i64 v] 3)).heap.size := by simp
              generalize W2.alloc (.cells #[.int .i64 v] 3) = W3 at *
              generalize W2.heap.size = bV at *
              clear HI2 HR2 HD2
              have hx3 : W3.cell? ⟨w.heap.size, 0, none⟩ = some (.pointer (some ⟨B, 0, none⟩)) := HI3.out.W.x.cell 0
              have hv3 : W3.cell? ⟨bV, 0, none⟩ = some (.int .i64 v) := HV3.out.cell 0
              have hc3 := HI3.out.S.cm v.toNat (by omega)
              obtain ⟨k1, rfl⟩ : ∃ k1, kq = k1 + 1 := ⟨kq - 1, by have := HKR.out; simp at this; omega⟩
              obtain ⟨cv, hcv⟩ : ∃ cv, s.1.getD v.toNat 0 = cv := ⟨_, rfl⟩
              rw [hcv] at hc3
              have HCV := Lib.hid hcv
              clear hcv
              by_cases hnev : cv = 1048576
              · have hq : (cv == 1048576) = true := by simp [hnev]
                have HNEV := Lib.hid hnev
                clear hnev
                go_quiet (fail)
                go_wp2_with fail
                refine run_leaves (gs := gs) (gm := gm) (bm := bm) (lm := lm) (M := M) hBlt _ Ds _ HND.out (fun D hD => ⟨(HD3.out D hD).1, (HD3.out D hD).2.2⟩) ?_
                have e := HTR.out
                rw [runL_never (x :: xs) (by simp) v HVL.out (by rw [HCV.out]; exact HNEV.out)] at e
                rw [← e]
                exact HI3.out.kept hBlt (grown_of_below (below_dN (Below.refl _ _) _) none) (fun r e => by cases e)
              · have hq : (cv == 1048576) = false := by simp [hnev]
                have HT4 := Lib.hid (HTR.out.symm.trans (runL_step (x :: xs) (by simp) v HVL.out (by rw [HCV.out]; exact hnev)))
                clear hnev
                go_quiet (fail)
                have g4 : W3.grownBy (W3.drewN nq) none := grown_of_below (below_dN (Below.refl _ _) _) none
                have HI4 := HI3.out.kept hBlt g4 (fun r e => by cases e)
                have HR4 := HR3.out.kept g4 (by simp)
                have HD4 := Aside0.mk (show ∀ D ∈ Ds, M < D ∧ D < (W3.drewN nq).heap.size ∧ (W3.drewN nq).heap[D]? = some (.deferred (some [])) from HD3.out)
                have HV4 := HV3.out.kept g4 (by simp)
                have hsz4 : bV < (W3.drewN nq).heap.size := hszV
                clear g4 hszV HV3 HD3 HR3 HI3 hx3 hv3 hc3
                go_upto_region 18 with (fail)
                generalize W3.drewN nq = W4 at *
                have HDF := Lib.hid (DeleteFunc78 79 #[.pointer (some ⟨bV, 0, none⟩)] (fun x => x == v) bL capL (x :: xs) W4 (enters_of Try.func79 (by kernel_rfl) rfl) HR4
                  (fun W y hg => same_call W bV v y ((HV4.kept hg (by simp; omega)).cell 0)))
                have HI4 := Lib.hid HI4
                have HV4 := Lib.hid HV4
                have hRlt : bL < W4.heap.size := HR4.lt
                have hneD : ∀ D ∈ Ds, D ≠ bL := fun D hD e => by
                  have h1 := (HD4.out D hD).2.2
                  obtain ⟨cur, hb, _⟩ := HR4.ex
                  rw [e, show W4.heap[bL]? = _ from hb] at h1
                  cases h1
                clear HR4
                go_upto_region 19 with (go_at_call 78; refine (HDF.out).mono ?_; rintro e W5 ⟨ys, hys, rfl, hr5, hg5⟩; have HR5 := Lib.hid hr5; have HYS := Lib.hid hys; have HG5 := Lib.hid hg5; clear hr5 hys hg5)
                have HI5 := HI4.out.kept hBlt HG5.out (fun r e => by cases e; exact hMb)
                have HV5 := HV4.out.kept HG5.out (by simp; omega)
                have HD5 := Aside0.mk (show ∀ D ∈ Ds, M < D ∧ D < W5.heap.size ∧ W5.heap[D]? = some (.deferred (some [])) from fun D hD => by
                  have h1 := HD4.out D hD
                  refine ⟨h1.1, Nat.lt_of_lt_of_le h1.2.1 HG5.out.size, (HG5.out.block D h1.2.1 (fun e => ?_)).trans h1.2.2⟩
                  injection e with e
                  exact hneD D hD e)
                have hgeM : w.heap.size + 3 ≤ M := HI5.ge
                have hw0B := HW0.out
                have hL5 : bL < W5.heap.size := HR5.out.lt
                have hM5 : M < W5.heap.size := HI5.ltM
                have hV5 : bV < W5.heap.size := HV5.lt
                have hx5 : W5.cell? ⟨w.heap.size, 0, none⟩ = some (.pointer (some ⟨B, 0, none⟩)) := HI5.W.x.cell 0
                have hv5 : W5.cell? ⟨bV, 0, none⟩ = some (.int .i64 v) := HV5.cell 0
                have g6 : W5.grownBy ((W5.alloc (.cells #[.pointer (some ⟨B, 0, none⟩)] 81)).alloc (.cells #[.int .i64 v] 3)) none := (World.grownBy_alloc _ _ none).trans (World.grownBy_alloc _ _ none)
                have hsz6 : ((W5.alloc (.cells #[.pointer (some ⟨B, 0, none⟩)] 81)).alloc (.cells #[.int .i64 v] 3)).heap.size = W5.heap.size + 2 := by simp
                have HJ6 := Aside0.mk (show RunJ w ((W5.alloc (.cells #[.pointer (some ⟨B, 0, none⟩)] 81)).alloc (.cells #[.int .i64 v] 3)) ((W5.alloc (.cells #[.pointer (some ⟨B, 0, none⟩)] 81)).alloc (.cells #[.int .i64 v] 3)) B gs gm bm lm n (.slice A l.length c) sv st M bL capL bV ys v Ds s from
                  ⟨HI5.kept hBlt g6 (fun r e => by cases e), HR5.out.kept g6 (by simp), fun D hD => ⟨(HD5.out D hD).1, by have := (HD5.out D hD).2.1; omega, (g6.block D (HD5.out D hD).2.1 (by simp)).trans (HD5.out D hD).2.2⟩, HV5.kept g6 (by simp), Nat.le_refl _⟩)
                have HX6 := Aside0.mk ((Blk.new W5 #[.pointer (some ⟨B, 0, none⟩)] 81).alloc (.cells #[.int .i64 v] 3))
                have HY6 := Aside0.mk (Blk.new (W5.alloc (.cells #[.pointer (some ⟨B, 0, none⟩)] 81)) #[.int .i64 v] 3)
                simp only [World.size_alloc] at HY6
                clear HI5 HD5 HV5 g6
                have hcall : Calls Try.prog 80 #[.pointer (some ⟨B, 0, none⟩), .int .i64 v] W5 fun e w' => e = .returned (.func (.func 84) #[] #[.pointer (some ⟨W5.heap.size, 0, none⟩), .pointer (some ⟨W5.heap.size + 1, 0, none⟩)]) ∧ w' = (W5.alloc (.cells #[.pointer (some ⟨B, 0, none⟩)] 81)).alloc (.cells #[.int .i64 v] 3) := out_call W5 ⟨B, 0, none⟩ v
                generalize hW6 : (W5.alloc (.cells #[.pointer (some ⟨B, 0, none⟩)] 81)).alloc (.cells #[.int .i64 v] 3) = W6 at *
                have HCALL := Lib.hid hcall
                clear hcall hW6
                go_wp2_with (go_at_call 80; refine (HCALL.out).mono ?_; rintro e w' ⟨rfl, rfl⟩)
                refine wpIn_wide.1 (rangeOut rfl (out_stops A c l (fun m hm => ⟨(HL.out m hm).1, by have := (HL.out m hm).2; omega⟩) v w0.heap.size B W5.heap.size (W5.heap.size + 1) w0 w' rfl (by have := HW0.out; omega) HR.out
                  (fun k hk => (HJ6.out.I.W.g.block k (by have := HW0.out; omega) (by have := HW0.out; simp; omega)).trans (HKEEP.out k hk)) HX6.out HY6.out HJ6.out.I.S.c1) (by omega) (by omega) (by have := HW0.out; omega)
                  (fun (pre : List OutMove) W => RunJ w w' W B gs gm bm lm n (.slice A l.length c) sv st M bL capL bV ys v Ds ((pre.map (fun (x : OutMove) => x.1)).foldl (bodyF step may v) s)) ?jown ?jinit ?jassign ?jbody ?jdone)
                case jown =>
                  intro pre X Y row h hg hr
                  exact h.kept hBlt (by omega) (by omega) (by omega) hg (fun r e => (hr r e).1)
                case jinit => exact HJ6.out
                case jassign =>
                  rintro ll pre ⟨⟨i, ⟨f, tt, ⟨lo, hi⟩⟩⟩, hx⟩ W K' hi' hK'
                  have e58 : enc58 ⟨f, tt, ⟨lo, hi⟩⟩ = .agg #[.int .i64 f, .int .i64 tt, .int .i64 lo, .int .i64 hi] := rfl
                  have HI' := Lib.hid hi'
                  clear hi'
                  simp only [e58, List.setIfInBounds_toArray, List.set_cons_zero, List.set_cons_succ]
                  gi_wp2
                  refine hK' _ _ ((KeepsOthers.alloc _ _).from _) ?_ ?_ ⟨W.heap.size, HI'.out.sz, Blk.new W _ 58, rfl⟩
                  · have g7 := World.grownBy_alloc W (.cells #[.int .i64 f, .int .i64 tt, .int .i64 lo, .int .i64 hi] 58) none
                    have := HI'.out.sz
                    exact ⟨g7.size, fun q hq => g7.block q (by omega) (by simp), g7.block _ (by omega) (by simp), g7.block _ (by omega) (by simp)⟩
                  · exact HI'.out.kept hBlt (by omega) (by omega) (by omega) (World.grownBy_alloc W _ none) (fun r e => by cases e)
                case jbody =>
                  rintro ll pre ⟨⟨i, m⟩, hx⟩ b W hi' hb hbk
                  rename_i K5 wr0 J1 K4 a5 a4 K3 a3 K2 J0 K1 a2 a1 K0 a0 h0 HI4x HV4x
                  clear a0 a1 a2 a3 a4 a5 hK hJ HDF HD4 HT4 HTR HKR HI4x HV4x HND HVR HVL HVM HI HROW HN2 HN HCM hlt hlt20 hl1 hl2 hlen0 h0 hq HCV HR5 HYS HG5 hx5 hv5 HX6 HY6 HCALL HS HR HKEEP HL HW0
                  clear K0 K1 K2 K3 K4 K5 J0 J1 K J
                  have hM6 : M < w'.heap.size := by omega
                  have hL6 : bL < w'.heap.size := by omega
                  have hV6 : bV < w'.heap.size := by omega
                  have hB6 : w0.heap.size ≤ w'.heap.size := by omega
                  have h56 : W5.heap.size < w'.heap.size := by omega
                  have h57 : W5.heap.size + 1 < w'.heap.size := by omega
                  clear hsz6
                  simp only [updT, List.setIfInBounds_toArray, List.set_cons_zero, List.set_cons_succ]
                  obtain ⟨s', hs'⟩ : ∃ s', (pre.map (fun (x : OutMove) => x.1)).foldl (bodyF step may v) s = s' := ⟨_, rfl⟩
                  have HSF := Aside0.mk (show ((pre ++ [(⟨(i, m), hx⟩ : OutMove)]).map (fun (x : OutMove) => x.1)).foldl (bodyF step may v) s = bodyF step may v s' (i, m) by rw [List.map_append, List.foldl_append, hs']; rfl)
                  have HIN := Aside0.mk (hs' ▸ hi')
                  clear hi' hs'
                  have HKN := Aside0.mk (show ∀ W', ownPostG w'.heap.size (KpO w0.heap.size W5.heap.size (W5.heap.size + 1)) (fun (pre : List OutMove) W => RunJ w w' W B gs gm bm lm n (.slice A l.length c) sv st M bL capL bV ys v Ds ((pre.map (fun (x : OutMove) => x.1)).foldl (bodyF step may v) s)) (fun _ _ _ => False) (pre ++ [⟨(i, m), hx⟩]) W .normal { tmps := #[], defers := [] } W' = (KeepsFrom w'.heap.size W W' ∧ KpO w0.heap.size W5.heap.size (W5.heap.size + 1) W W' ∧ RunJ w w' W' B gs gm bm lm n (.slice A l.length c) sv st M bL capL bV ys v Ds (bodyF step may v s' (i, m))) from fun W' => by rw [ownPostG, HSF.out])
                  have cs : W.cell? ⟨w.heap.size + 1, 0, none⟩ = some (.func (.func gs) #[] #[]) := HIN.out.I.W.s.cell 0
                  have cx : W.cell? ⟨w.heap.size, 0, none⟩ = some (.pointer (some ⟨B, 0, none⟩)) := HIN.out.I.W.x.cell 0
                  have cv9 : W.cell? ⟨bV, 0, none⟩ = some (.int .i64 v) := HIN.out.bv.cell 0
                  have ccm := HIN.out.I.S.cm v.toNat (by omega)
                  have cm0 : W.cell? ⟨b, 0, none⟩ = some (.int .i64 m.f0) := hbk.cell 0
                  have cm1' : W.cell? ⟨b, 1, none⟩ = some (.int .i64 m.f1) := hbk.cell 1
                  have cm2 : W.cell? ⟨b, 2, none⟩ = some (.int .i64 m.f2.f0) := hbk.cell 2
                  have cm3 : W.cell? ⟨b, 3, none⟩ = some (.int .i64 m.f2.f1) := hbk.cell 3
                  obtain ⟨cw, hcw⟩ : ∃ cw, s'.1.getD v.toNat 0 = cw := ⟨_, rfl⟩
                  rw [hcw] at ccm
                  have HCW := Lib.hid hcw
                  clear hcw
                  have e58 : enc58 m = .agg #[.int .i64 m.f0, .int .i64 m.f1, .int .i64 m.f2.f0, .int .i64 m.f2.f1] := rfl
                  obtain ⟨⟨t1, ok1⟩, hst⟩ : ∃ r, step cw m = r := ⟨_, rfl⟩
                  have HCS := Lib.hid (fun (X : World) => HSTEP.out X cw m)
                  rw [hst, e58] at HCS
                  have HST := Lib.hid hst
                  clear hst
                  gi_wp2_with fail
                  have gs1 := cell_regrown cs
                  have gx := cell_regrown cx
                  have gv := cell_regrown cv9
                  have gc := cell_regrown ccm
                  have g0 := cell_regrown cm0
                  have g1 := cell_regrown cm1'
                  have g2 := cell_regrown cm2
                  have g3 := cell_regrown cm3
                  refine below_round 2 ll (by kernel_rfl) (by kernel_rfl) (by kernel_rfl) (by rintro ⟨_, _, h⟩; exact h) ?_
                  repeat (go_big_quiet_step (first | (go_at_fn gs; exact Calls.regrown_of (HCS.out _))))
                  refine wpQuiet_nil ?_
                  intro _ hw'
                  obtain ⟨⟨dq, osq⟩, hw''⟩ := hw'
                  subst hw''
                  clear gs1 gx gv gc g0 g1 g2 g3 cs cx cv9 ccm cm0 cm1' cm2 cm3
                  have HB2 := Aside0.mk (below_regrown W dq osq)
                  have HJ2 := HIN.out.kept hBlt (by omega) (by omega) (by omega) (grown_of_below HB2.out none) (fun r e => by cases e)
                  have HK2 := HB2.out
                  have hbk2 := hbk.below HB2.out hbk.lt
                  gi_upto_region 23 with (fail)
                  generalize «Sort».grow (redrawn W dq) osq = W2 at *
                  clear HK2
                  have cx : W2.cell? ⟨w.heap.size, 0, none⟩ = some (.pointer (some ⟨B, 0, none⟩)) := HJ2.I.W.x.cell 0
                  have cmy : W2.cell? ⟨w.heap.size + 1 + 1, 0, none⟩ = some (.func (.func gm) bm lm) := HJ2.I.W.m.cell 0
                  have cm0 : W2.cell? ⟨b, 0, none⟩ = some (.int .i64 m.f0) := hbk2.cell 0
                  have cm1' : W2.cell? ⟨b, 1, none⟩ = some (.int .i64 m.f1) := hbk2.cell 1
                  have cm2 : W2.cell? ⟨b, 2, none⟩ = some (.int .i64 m.f2.f0) := hbk2.cell 2
                  have cm3 : W2.cell? ⟨b, 3, none⟩ = some (.int .i64 m.f2.f1) := hbk2.cell 3
                  have hx0 : 0 ≤ m.f1 := hx.1
                  have hx20 : m.f1 < 20 := hx.2
                  have ccm := HJ2.I.S.cm m.f1.toNat (by omega)
                  obtain ⟨ct, hct⟩ : ∃ ct, s'.1.getD m.f1.toNat 0 = ct := ⟨_, rfl⟩
                  rw [hct] at ccm
                  have HCT := Lib.hid hct
                  have HJ2 := Aside0.mk HJ2
                  have HBK := Aside0.mk hbk2
                  clear hct hbk hbk2 HCS
                  have HBF := Lib.hid (show bodyF step may v s' (i, m) = if ok1 = true ∧ may m = true ∧ t1 < ct then (s'.1.set m.f1.toNat t1, fun k => if k = m.f1 then some i else s'.2 k) else s' by
                    unfold bodyF
                    simp only [HCW.out, HST.out, HCT.out])
                  have HKO : ∀ W3, Below W2.heap.size W2 W3 → bodyF step may v s' (i, m) = s' → ownPostG w'.heap.size (KpO w0.heap.size W5.heap.size (W5.heap.size + 1)) (fun (pre : List OutMove) W => RunJ w w' W B gs gm bm lm n (.slice A l.length c) sv st M bL capL bV ys v Ds ((pre.map (fun (x : OutMove) => x.1)).foldl (bodyF step may v) s)) (fun _ _ _ => False) (pre ++ [⟨(i, m), hx⟩]) W .normal { tmps := #[], defers := [] } W3 := fun W3 h3 he => by
                    have hB3 : Below W.heap.size W W3 := below_then HB2.out HB2.out.size h3
                    have hszW := HIN.out.sz
                    rw [HKN.out, he]
                    exact ⟨KeepsFrom.of_grownBy (grown_of_below hB3 none) (fun j e => by cases e), ⟨hB3.size, fun q hq => hB3.block q (by omega), hB3.block _ (by omega), hB3.block _ (by omega)⟩, HIN.out.kept hBlt (by omega) (by omega) (by omega) (grown_of_below hB3 none) (fun r e => by cases e)⟩
                  have HKO := Lib.hid HKO
                  have gx := cell_regrown cx
                  have gy := cell_regrown cmy
                  have gc := cell_regrown ccm
                  have g0 := cell_regrown cm0
                  have g1 := cell_regrown cm1'
                  have g2 := cell_regrown cm2
                  have g3 := cell_regrown cm3
                  cases ok1 with
                  | false =>
                    refine below_round 2 ll (by kernel_rfl) (by kernel_rfl) (by kernel_rfl) (by rintro ⟨_, _, h⟩; exact h) ?_
                    repeat (go_big_quiet_step (fail))
                    refine wpQuiet_nil ?_
                    intro _ hw'
                    obtain ⟨⟨dq, osq⟩, hw''⟩ := hw'
                    subst hw''
                    clear gx gy gc g0 g1 g2 g3
                    gi_wp2_with fail
                    exact HKO.out _ (below_regrown W2 dq osq) (by rw [HBF.out]; simp)
                  | true =>
                    have HCM := Lib.hid (fun (d : Nat) (os : Array Obj) => HMAY.out («Sort».grow (redrawn W2 d) os) m ((HJ2.out.I.W.g.trans (grown_of_below (below_regrown W2 d os) _))))
                    obtain ⟨mb, hmb⟩ : ∃ mb, may m = mb := ⟨_, rfl⟩
                    rw [hmb, e58] at HCM
                    rw [hmb] at HBF
                    clear hmb
                    cases mb with
                    | false =>
                      refine below_round 2 ll (by kernel_rfl) (by kernel_rfl) (by kernel_rfl) (by rintro ⟨_, _, h⟩; exact h) ?_
                      repeat (go_big_quiet_step (first | (go_at_fn gm; exact Calls.regrown_of (HCM.out _ _))))
                      refine wpQuiet_nil ?_
                      intro _ hw'
                      obtain ⟨⟨dq, osq⟩, hw''⟩ := hw'
                      subst hw''
                      clear gx gy gc g0 g1 g2 g3
                      gi_wp2_with fail
                      exact HKO.out _ (below_regrown W2 dq osq) (by rw [HBF.out]; simp)
                    | true =>
                      by_cases hlt : t1 < ct
                      · have hltd : decide (t1 < ct) = true := decide_eq_true hlt
                        refine below_round 2 ll (by kernel_rfl) (by kernel_rfl) (by kernel_rfl) (by rintro ⟨_, _, h⟩; exact h) ?_
                        repeat (go_big_quiet_step (first | (go_at_fn gm; exact Calls.regrown_of (HCM.out _ _))))
                        refine wpQuiet_nil ?_
                        intro _ hw'
                        obtain ⟨⟨dq, osq⟩, hw''⟩ := hw'
                        subst hw''
                        clear gx gy gc g0 g1 g2 g3
                        have HB3 := Aside0.mk (below_then HB2.out HB2.out.size (below_regrown W2 dq osq))
                        have hbk3 := HBK.out.below (below_regrown W2 dq osq) HBK.out.lt
                        gi_upto_region 24 with (fail)
                        generalize «Sort».grow (redrawn W2 dq) osq = W3 at *
                        replace HBF := Lib.hid (show bodyF step may v s' (i, m) = (s'.1.set m.f1.toNat t1, fun k => if k = m.f1 then some i else s'.2 k) from HBF.out.trans (if_pos ⟨by simp, by simp, hlt⟩))
                        clear HKO HBK HJ2 HB2 cx cmy cm0 cm1' cm2 cm3 ccm
                        obtain ⟨W4d, e4⟩ : ∃ W4d, W3.drew = W4d := ⟨_, rfl⟩
                        have HB4 : Below W.heap.size W W4d := by rw [← e4]; exact below_drew HB3.out
                        have HJ4 := HIN.out.kept hBlt hM6 hL6 hV6 (grown_of_below HB4 none) (fun r e => by cases e)
                        have hbk4 : Blk W4d b 58 (mvC m) := by rw [← e4]; exact hbk3
                        have cx : W4d.cell? ⟨w.heap.size, 0, none⟩ = some (.pointer (some ⟨B, 0, none⟩)) := HJ4.I.W.x.cell 0
                        have cm1' : W4d.cell? ⟨b, 1, none⟩ = some (.int .i64 m.f1) := hbk4.cell 1
                        have ccm := HJ4.I.S.cm m.f1.toNat (by omega)
                        have cfz := HJ4.I.S.fz (4 + m.f1.toNat)
                        refine tail_round 2 ll 7 (by kernel_rfl) (by kernel_rfl) (by kernel_rfl) (by rintro ⟨_, _, h⟩; exact h) ?_
                        rw [e4]
                        simp only [List.take_succ_cons, List.take_zero, List.drop_succ_cons, List.drop_zero]
                        repeat still_step
                        refine wpStill_nil ?_
                        go_wp2_with fail
                        have HJ5 := HJ4.come hBlt hMb (by omega) m.f1.toNat (by omega) t1
                        have hg5 := grown_set W4d B (4 + m.f1.toNat) (.int .i64 t1)
                        have hbk5 := hbk4.kept hg5 (by have := HIN.out.I.ge; simp; omega)
                        generalize W4d.setCell ⟨B, 4 + m.f1.toNat, none⟩ (.int .i64 t1) = W5d at *
                        clear cx cm1' ccm cfz hbk4
                        obtain ⟨W6d, e6⟩ : ∃ W6d, W5d.drew = W6d := ⟨_, rfl⟩
                        have hg6 : W5d.grownBy W6d none := by rw [← e6]; exact grown_of_below (below_drew (Below.refl _ _)) none
                        have HJ6d := HJ5.kept hBlt hM6 hL6 hV6 hg6 (fun r e => by cases e)
                        have hbk6 := hbk5.kept hg6 (by simp)
                        obtain ⟨N6, hN6⟩ := HJ6d.I.Mp
                        obtain ⟨W7d, hup, hmap, hg7⟩ := hN6.update keyOK Try.underlying94 m.f1 (.int .i64 i)
                        have HJ7 := HJ6d.mapped hBlt hMb (by omega) hg7 hmap (f2 := fun k => if k = m.f1 then some i else s'.2 k) (fun k => by split <;> rfl)
                        have cx : W6d.cell? ⟨w.heap.size, 0, none⟩ = some (.pointer (some ⟨B, 0, none⟩)) := HJ6d.I.W.x.cell 0
                        have cmp := HJ6d.I.S.cmap
                        have cm1' : W6d.cell? ⟨b, 1, none⟩ = some (.int .i64 m.f1) := hbk6.cell 1
                        have hup' : (Instr.mapUpdate 94 (.map (some M)) (.agg #[.int .i64 m.f1]) (.int .i64 i)).run Try.prog W6d = .ok () W7d := hup
                        clear hup hmap
                        refine tail_round 2 ll 8 (by kernel_rfl) (by kernel_rfl) (by kernel_rfl) (by rintro ⟨_, _, h⟩; exact h) ?_
                        rw [e6]
                        simp only [List.take_succ_cons, List.take_zero, List.drop_succ_cons, List.drop_zero]
                        repeat still_step
                        refine wpStill_nil ?_
                        go_wp2_with fail
                        have hge := HIN.out.I.ge
                        have hszW := HIN.out.sz
                        have hk7 : ∀ q, q < W.heap.size → q ≠ B → q ≠ M → W7d.heap[q]? = W.heap[q]? := fun q h1 h2 h3 => by
                          have s4 := HB4.size
                          have s5 := hg5.size
                          have s6 := hg6.size
                          exact (hg7.block q (by omega) (by simpa using h3)).trans ((hg6.block q (by omega) (by simp)).trans ((hg5.block q (by omega) (by simpa using h2)).trans (HB4.block q h1)))
                        have hfin := (HKN.out W7d).mpr ⟨((KeepsFrom.of_grownBy (grown_of_below HB4 none) (fun j e => by cases e)).trans (KeepsFrom.of_grownBy hg5 (fun j e => by cases e; omega))).trans ((KeepsFrom.of_grownBy hg6 (fun j e => by cases e)).trans (KeepsFrom.of_grownBy hg7 (fun j e => by cases e; omega))), ⟨Nat.le_trans HB4.size (Nat.le_trans hg5.size (Nat.le_trans hg6.size hg7.size)), ?_, ?_, ?_⟩, by rw [HBF.out]; exact HJ7⟩
                        · exact hfin
                        · exact fun q hq => hk7 q (by omega) (by omega) (by omega)
                        · exact hk7 _ (by omega) (by omega) (by omega)
                        · exact hk7 _ (by omega) (by omega) (by omega)
                      · have hltd : decide (t1 < ct) = false := decide_eq_false hlt
                        refine below_round 2 ll (by kernel_rfl) (by kernel_rfl) (by kernel_rfl) (by rintro ⟨_, _, h⟩; exact h) ?_
                        repeat (go_big_quiet_step (first | (go_at_fn gm; exact Calls.regrown_of (HCM.out _ _))))
                        refine wpQuiet_nil ?_
                        intro _ hw'
                        obtain ⟨⟨dq, osq⟩, hw''⟩ := hw'
                        subst hw''
                        clear gx gy gc g0 g1 g2 g3
                        gi_wp2_with fail
                        exact HKO.out _ (below_regrown W2 dq osq) (by rw [HBF.out]; simp; intro h; omega)
                case jdone =>
                  intro D xs' W hD hxs hI hWD
                  rw [hxs] at hI
                  have hys := HYS.out
                  refine hK _ _ (Handed.intro k1 (Nat.lt_succ_self _) (hJ _ _ _ ⟨_, ys, D :: Ds, _, _, _, _, _, _, _, _, _, _, _, _, _, _, _, _, _, _, _, _, rfl, ⟨hI.I⟩, ⟨hI.row⟩, ⟨?_, ?_⟩, ⟨?_⟩, ⟨?_⟩, ⟨?_⟩⟩))
                  · exact List.nodup_cons.2 ⟨fun h => by have := (hI.ds D h).2.1; omega, HND.out⟩
                  · intro E hE
                    rcases List.mem_cons.1 hE with rfl | hE
                    · exact ⟨by omega, hWD⟩
                    · exact ⟨(hI.ds E hE).1, (hI.ds E hE).2.2⟩
                  · intro u hu
                    rw [hys] at hu
                    exact HVR.out u (List.mem_filter.1 hu).1
                  · rw [hys]; exact HT4.out.symm
                  · have := HKR.out
                    have h2 : ys.length < (x :: xs).length := by
                      rw [hys]
                      exact List.length_filter_lt_length_iff_exists.2 ⟨v, HVM.out, by simp⟩
                    omega
end Go.Proofs.Ytfhmepdbbhcncaa.P
