import Derived.Test.YtfhmepdbbhcncaaE9
import Derived.Test.YtfhmepdbbhcncaaPx2
import Derived.ArgAppend
namespace Go.Proofs.Ytfhmepdbbhcncaa.P
open Go.RowKit Go.Shelf Go.Proofs.YtfhmepdbbhcncaaW.PrintWords Go.Proofs.YtfhmepdbbhcncaaW.PrintLast Go.Proofs.YtfhmepdbbhcncaaW.PrintMore Go.Proofs.YtfhmepdbbhcncaaM Go.Proofs.YtfhmepdbbhcncaaR
set_option linter.unusedVariables false
set_option linter.unusedSimpArgs false

/-- the way back: by the moves that are noted, from a vessel to the start's -/
def wayL (l : List S58) (home : Int) : Nat → (Int → Option Int) → Int → List Int → Option (List Int)
  | 0, _, _, _ => none
  | k + 1, f, at_, acc =>
    if at_ = home then some acc else
      if 0 ≤ (f at_).getD 0 ∧ (f at_).getD 0 < l.length then wayL l home k (fun x => if x = at_ then none else f x) (rd_T58 l ((f at_).getD 0)).f0 (acc ++ [(f at_).getD 0]) else none

theorem eq111 (a b : Int) (w : World) : (Op.equal 111 (.agg #[.int .i64 a]) (.agg #[.int .i64 b])).run Try.prog w = .ok (a == b) w := by
  exact keyOK.eq a b w

theorem cut_full_27 (A : Option Addr) (n cap : Nat) (h2 : n ≤ cap) (W : World) :
    (Instr.slice 27 (.slice A n cap) none (some (.int .i64 (n : Int))) (some (.int .i64 (n : Int)))).run Try.prog W = .ok (.slice A n n) W := by
  obtain ⟨ti, hi, _, hs, _⟩ := info_parts info3
  have hel : Try.prog.elem 27 = 3 := by simp [Program.elem, Try.underlying27]
  have hu : Try.prog.underlying 27 = some (.slice (Try.prog.elem 27)) := by rw [hel]; exact Try.underlying27
  have ha : (A.map fun x => x.add 0) = A := by cases A <;> simp [Addr.add]
  rw [run_slice_hm W 27 A n cap hu .i64 .i64 n n (by omega) (by omega) (by omega), hel]
  simp [sizeOf, typeInfo, hi, sliced, Result.andThen, ha]

/-- A list that is being made: nothing yet, or a row of its own. -/
def OutV (W : World) (base : Nat) (v : Value) (xs : List Int) : Prop :=
  (xs = [] ∧ v = .slice none 0 0) ∨ (0 < xs.length ∧ ∃ b cap, v = .slice (some ⟨b, 0, none⟩) xs.length cap ∧ base ≤ b ∧ RowC W b 3 cap xs)
theorem OutV.lower {W : World} {base base' : Nat} {v : Value} {xs : List Int} (h : OutV W base v xs) (hb : base' ≤ base) : OutV W base' v xs := by
  rcases h with h | ⟨h, b, cap, e, hb', hr⟩
  · exact .inl h
  · exact .inr ⟨h, b, cap, e, Nat.le_trans hb hb', hr⟩
theorem OutV.kept {W W' : World} {base : Nat} {v : Value} {xs : List Int} {row : Option Nat} (h : OutV W base v xs) (hg : W.grownBy W' row) (hr : ∀ r, row = some r → r < base) : OutV W' base v xs := by
  rcases h with h | ⟨h, b, cap, e, hb', hrow⟩
  · exact .inl h
  · exact .inr ⟨h, b, cap, e, hb', hrow.kept hg (fun e => by have := hr _ e.symm; omega)⟩
theorem OutV.shape {W : World} {base : Nat} {v : Value} {xs : List Int} (h : OutV W base v xs) : ∃ A c, v = .slice A xs.length c ∧ xs.length ≤ c := by
  rcases h with ⟨rfl, rfl⟩ | ⟨h, b, cap, e, hb', hrow⟩
  · exact ⟨none, 0, rfl, Nat.le_refl _⟩
  · exact ⟨_, _, e, hrow.le⟩
theorem OutV.own {W : World} {base : Nat} {v : Value} {xs : List Int} (h : OutV W base v xs) : Kd.R (Kd.int .i64) 3 W base (fun _ => True) v xs := by
  rcases h with ⟨rfl, rfl⟩ | ⟨h, b, cap, rfl, hb', hrow⟩
  · exact Kd.R_nil _ _ _ _ _
  · exact Kd.R_of_own (hrow.own hb') (fun _ _ => trivial)

/-- 'append(out[:len(out):len(out)], x)': always a new row. -/
theorem grow27 {W : World} {base : Nat} {v : Value} {xs : List Int} (h : OutV W base v xs) (hl : xs.length < 1000000) (x : Int) :
    ∃ A c, v = .slice A xs.length c ∧ xs.length ≤ c ∧ ∃ v' w', (∀ ty, (Builtin.append_ #[27, 27] ty #[.slice A xs.length xs.length, .slice (some ⟨W.heap.size, 0, none⟩) 1 1]).run Try.prog (W.alloc (.cells #[.int .i64 x] 3)) = .ok v' w') ∧
      OutV w' W.heap.size v' (xs ++ [x]) ∧ W.grownBy w' none := by
  obtain ⟨ti, hi, hz, hs, hby⟩ := info_parts info3
  have hmx : maxLen = 9223372036854775807 := rfl
  have hga : W.grownBy (W.alloc (.cells #[.int .i64 x] 3)) none := World.grownBy_alloc _ _ _
  have hnew : ∀ j u, [Value.int .i64 x][j]? = some u → (W.alloc (.cells #[.int .i64 x] 3)).cell? ((⟨W.heap.size, 0, none⟩ : Addr).add j) = some u := by
    intro j u hu
    have hc := (Blk.new W #[.int .i64 x] 3).cell j
    rw [Addr.add_lit, Nat.zero_add, hc]
    simpa using hu
  have fin : ∀ v' w', w'.ownsRow (W.alloc (.cells #[.int .i64 x] 3)).heap.size 3 1 v' (xs.length + 1) (xs.map (Value.int .i64) ++ [.int .i64 x]) → OutV w' W.heap.size v' (xs ++ [x]) := by
    intro v' w' ho
    have e : xs.map (Value.int .i64) ++ [.int .i64 x] = (xs ++ [x]).map (Value.int .i64) := by simp
    rw [e] at ho
    obtain ⟨b, cap, rfl, hb, hn, hrow⟩ := RowC.of_own ho (by omega)
    refine .inr ⟨by simp, b, cap, by rw [hn], ?_, hrow⟩
    simp at hb; omega
  rcases h with ⟨rfl, rfl⟩ | ⟨h, b, cap, rfl, hb', hrow⟩
  · refine ⟨none, 0, rfl, Nat.le_refl _, ?_⟩
    have key : ∀ ty, ∃ v' w', (Builtin.append_ #[27, 27] ty #[.slice none 0 0, .slice (some ⟨W.heap.size, 0, none⟩) 1 1]).run Try.prog (W.alloc (.cells #[.int .i64 x] 3)) = .ok v' w' ∧ OutV w' W.heap.size v' ([] ++ [x]) ∧ W.grownBy w' none := by
      intro ty
      obtain ⟨v', w', h1, h2, h3, _⟩ := run_append_own (P := Try.prog) (w := W.alloc (.cells #[.int .i64 x] 3)) (W.alloc (.cells #[.int .i64 x] 3)).heap.size 27 ty 3 ti (.int .i64 0) 1 8 Try.underlying27 hi hz hs hby rfl (by decide) (.slice none 0 0) 0 [] ⟨rfl, .inl ⟨rfl, rfl⟩⟩ ⟨W.heap.size, 0, none⟩ 1 1 [.int .i64 x] rfl hnew (by simp [Value.oneCell']) (by omega) (by omega) (Nat.le_refl _)
      exact ⟨v', w', h1, fin v' w' h2, hga.trans h3⟩
    obtain ⟨v', w', h1, h2, h3⟩ := key 27
    refine ⟨v', w', fun ty => ?_, h2, h3⟩
    exact h1
  · refine ⟨some ⟨b, 0, none⟩, cap, rfl, hrow.le, ?_⟩
    have hrow1 := hrow.kept hga (by simp)
    obtain ⟨v', w', h1, h2, h3⟩ := run_append_arg_grows (P := Try.prog) (W.alloc (.cells #[.int .i64 x] 3)) 27 27 3 ti (.int .i64 0) 1 8 Try.underlying27 hi hz hs hby rfl (by decide) ⟨b, 0, none⟩ xs.length xs.length (xs.map (Value.int .i64)) (by simp)
      (fun j u hu => by
        have hj : j < xs.length := by have := (List.getElem?_eq_some_iff.1 hu).1; simpa using this
        have := hrow1.cell j hj
        rw [List.getElem?_map, List.getElem?_eq_getElem hj] at hu
        simp only [Option.map_some, Option.some.injEq] at hu
        rw [← hu, Addr.add_lit, Nat.zero_add]
        exact this) ⟨W.heap.size, 0, none⟩ 1 1 [.int .i64 x] rfl hnew (by omega) (by omega) (by omega)
    exact ⟨v', w', fun ty => h1, fin v' w' h2, hga.trans h3⟩

/-- An append of which it is known what it does. -/
theorem append_run {P : Program} {ops : Array Oper} {rest : List Oper} {o : Oper} {a : Act} {Q : Exit → Act → World → Prop} {W : World} (hgd : o.guard = none) (s x : Operand) (t : TypeId)
    (hop : o.op = Op.call { callee := Callee.builtin Builtin.append, args := #[s, x], argTypes := #[t, t] }) (vs vx v' : Value) (w' : World) (hs : a.eval s = vs) (hx : a.eval x = vx)
    (hrun : ∀ ty, (Builtin.append_ #[t, t] ty #[vs, vx]).run P W = .ok v' w') (h : wpList P ops Q rest (a.put o.dst v') w') : wpList P ops Q (o :: rest) a W := by
  refine wpList_plain hgd fun K hK' => ?_
  unfold Oper.wp
  simp [execOp, hop, resolve, invoke, builtin, hs, hx, hrun, Result.andThen]
  exact hK' _ _ h
end Go.Proofs.Ytfhmepdbbhcncaa.P
