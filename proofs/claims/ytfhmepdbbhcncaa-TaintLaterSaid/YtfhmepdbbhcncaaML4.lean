/- Texts of this claim, joined: UM. -/
import Derived.Test.YtfhmepdbbhcncaaML3
namespace Go.Proofs.Ytfhmepdbbhcncaa.P
open Go.RowKit Go.Proofs.YtfhmepdbbhcncaaW.PrintWords Go.Proofs.YtfhmepdbbhcncaaW.PrintLast Go.Proofs.YtfhmepdbbhcncaaW.PrintMore
set_option linter.unusedVariables false
set_option linter.unusedSimpArgs false

/-! Moves in a row of the call's own, cell by cell. -/
def cellsM1 (m : S58) : List Value := [.int .i64 m.f0, .int .i64 m.f1, .int .i64 m.f2.f0, .int .i64 m.f2.f1]
def cellsM : List S58 → List Value
  | [] => []
  | m :: l => cellsM1 m ++ cellsM l
theorem cellsM_append : ∀ (a b : List S58), cellsM (a ++ b) = cellsM a ++ cellsM b
  | [], b => rfl
  | m :: a, b => by rw [List.cons_append, cellsM, cellsM, cellsM_append a b, List.append_assoc]
theorem cellsM_len : ∀ (l : List S58), (cellsM l).length = l.length * 4
  | [] => rfl
  | m :: l => by
    rw [cellsM, List.length_append, cellsM_len l, List.length_cons]
    show 4 + _ = _
    omega
theorem cellsM_at : ∀ (l : List S58) (j i : Nat) (hj : j < l.length) (hi : i < 4), (cellsM l)[j * 4 + i]? = (cellsM1 l[j])[i]?
  | [], j, i, hj, hi => absurd hj (Nat.not_lt_zero _)
  | m :: l, 0, i, hj, hi => by
    rw [cellsM, List.getElem?_append_left (by show 0 * 4 + i < 4; omega), Nat.zero_mul, Nat.zero_add]
    rfl
  | m :: l, j + 1, i, hj, hi => by
    rw [cellsM, List.getElem?_append_right (by show 4 ≤ _; omega)]
    have e : (j + 1) * 4 + i - (cellsM1 m).length = j * 4 + i := by
      show (j + 1) * 4 + i - 4 = _
      omega
    rw [e, cellsM_at l j i (by simpa using hj) hi]
    rfl
theorem cellsM_one (l : List S58) : ∀ u ∈ cellsM l, u.oneCell' = true := by
  induction l with
  | nil => intro u hu; cases hu
  | cons m l ih =>
    intro u hu
    rw [cellsM, List.mem_append] at hu
    rcases hu with hu | hu
    · simp only [cellsM1, List.mem_cons, List.not_mem_nil, or_false] at hu
      rcases hu with rfl | rfl | rfl | rfl <;> rfl
    · exact ih u hu
theorem C_cells {w : World} {A : Option Addr} {l : List S58} (h : Kd.C k58 w A l.length l) (hp : 0 < l.length) : ∃ ad, A = some ad ∧ ∀ j u, (cellsM l)[j]? = some u → w.cell? (ad.add j) = some u := by
  obtain ⟨_, _, h3⟩ := h
  obtain ⟨ad, e, hc⟩ := h3 hp
  refine ⟨ad, e, fun q u hu => ?_⟩
  have hq : q < l.length * 4 := by rw [← cellsM_len]; exact (List.getElem?_eq_some_iff.1 hu).1
  have e1 : q = q / 4 * 4 + q % 4 := by omega
  rw [e1, cellsM_at l (q / 4) (q % 4) (by omega) (by omega)] at hu
  obtain ⟨c, hcl, hK, hcell⟩ := hc (q / 4) _ (List.getElem?_eq_getElem (show q / 4 < l.length by omega))
  obtain rfl := k58_open hK
  have := hcell (q % 4) u hu
  rw [e1]
  exact this
theorem own_C {W : World} {base : Nat} {v : Value} {l : List S58} (h : W.ownsRow base 58 4 v l.length (cellsM l)) : ∃ A c, v = .slice A l.length c ∧ Rd k58 W A l.length c l := by
  obtain ⟨h1, ⟨rfl, h0⟩ | ⟨g, cap, cur, rfl, hg, hk, hle, hcm, hs, ht⟩⟩ := h
  · obtain rfl := List.eq_nil_of_length_eq_zero h0
    exact ⟨none, 0, rfl, rfl, Nat.zero_le _, Kd.C_nil _ _⟩
  · have hmx : maxLen = 9223372036854775807 := rfl
    refine ⟨_, cap, rfl, rfl, hle, rfl, by omega, fun hp => ⟨⟨g, 0, none⟩, rfl, fun j p hj => ⟨cellsM1 p, rfl, k58_mk W p, fun i u hu => ?_⟩⟩⟩
    obtain ⟨hj1, rfl⟩ := List.getElem?_eq_some_iff.1 hj
    have hi : i < 4 := (List.getElem?_eq_some_iff.1 hu).1
    have e := cellsM_at l j i hj1 hi
    rw [hu, ← ht, List.getElem?_take_of_lt (by omega)] at e
    have e2 : (⟨g, 0, none⟩ : Addr).add (j * 4 + i) = ⟨g, j * 4 + i, none⟩ := by rw [Addr.add_lit, Nat.zero_add]
    show W.cell? ((⟨g, 0, none⟩ : Addr).add (j * 4 + i)) = some u
    rw [e2, blk_cell hk]
    rw [← Array.getElem?_toList]
    exact e
theorem cellsM_set : ∀ (l : List S58) (k i : Nat) (hk : k < l.length) (hi : i < 4) (u : Value) (m' : S58), cellsM1 m' = (cellsM1 l[k]).set i u → cellsM (l.set k m') = (cellsM l).set (k * 4 + i) u
  | [], k, i, hk, hi, u, m', h => absurd hk (Nat.not_lt_zero _)
  | m :: l, 0, i, hk, hi, u, m', h => by
    rw [List.set_cons_zero, cellsM, cellsM, Nat.zero_mul, Nat.zero_add, List.set_append_left _ _ (by show i < 4; omega), h]
    rfl
  | m :: l, k + 1, i, hk, hi, u, m', h => by
    rw [List.set_cons_succ, cellsM, cellsM, List.set_append_right _ _ (by show 4 ≤ _; omega), cellsM_set l k i (by simpa using hk) hi u m' h]
    have e : (k + 1) * 4 + i - (cellsM1 m).length = k * 4 + i := by
      show (k + 1) * 4 + i - 4 = _
      omega
    rw [e]
theorem own_set {W : World} {base g n c : Nat} {l : List S58} (h : W.ownsRow base 58 4 (.slice (some ⟨g, 0, none⟩) n c) l.length (cellsM l)) (k i : Nat) (hk : k < l.length) (hi : i < 4) (u : Value) (m' : S58) (hm : cellsM1 m' = (cellsM1 l[k]).set i u) :
    (W.setCell ⟨g, k * 4 + i, none⟩ u).ownsRow base 58 4 (.slice (some ⟨g, 0, none⟩) n c) (l.set k m').length (cellsM (l.set k m')) := by
  obtain ⟨h1, ⟨h0, _⟩ | ⟨g', cap, cur, h0, hg, hh, hle, hcm, hs, ht⟩⟩ := h
  · cases h0
  · injection h0 with e1 e2 e3
    injection e1 with e1
    injection e1 with e1 _ _
    subst e1 e2 e3
    refine ⟨by rw [cellsM_len], .inr ⟨g, c, cur.setIfInBounds (k * 4 + i) u, by rw [List.length_set], hg, blk_set hh _ _, by rw [List.length_set]; exact hle, hcm, by rw [Array.size_setIfInBounds]; exact hs, ?_⟩⟩
    rw [List.length_set, Array.toList_setIfInBounds, List.take_set, ht]
    exact (cellsM_set l k i hk hi u m' hm).symm
theorem own_cell {W : World} {base g n c : Nat} {l : List S58} (h : W.ownsRow base 58 4 (.slice (some ⟨g, 0, none⟩) n c) l.length (cellsM l)) (k i : Nat) (hk : k < l.length) (hi : i < 4) : W.cell? ⟨g, k * 4 + i, none⟩ = (cellsM1 l[k])[i]? ∧ W.frozen? ⟨g, k * 4 + i, none⟩ = false := by
  obtain ⟨h1, ⟨h0, _⟩ | ⟨g', cap, cur, h0, hg, hh, hle, hcm, hs, ht⟩⟩ := h
  · cases h0
  · injection h0 with e1 e2 e3
    injection e1 with e1
    injection e1 with e1 _ _
    subst e1 e2 e3
    have e := cellsM_at l k i hk hi
    rw [← ht, List.getElem?_take_of_lt (by omega)] at e
    refine ⟨?_, blk_frozen hh _⟩
    rw [blk_cell hh, ← Array.getElem?_toList]
    exact e
theorem own_below {W W' : World} {base e size n : Nat} {v : Value} {xs : List Value} (h : W.ownsRow base e size v n xs) (hb : Below W.heap.size W W') : W'.ownsRow base e size v n xs := h.kept (grown_of_below hb none) (by
  rcases h.2 with ⟨rfl, _⟩ | ⟨g, cap, cur, rfl, _⟩
  · exact .inl rfl
  · exact .inr (by simp [Value.ownBlock]))
/-- append of moves (whatever their row) to a row of moves of the call's own. -/
theorem app58 {W : World} {base : Nat} {v : Value} {xs : List S58} (hown : W.ownsRow base 58 4 v xs.length (cellsM xs)) (a : Addr) (c : Nat) (l : List S58) (hnews : ∀ j u, (cellsM l)[j]? = some u → W.cell? (a.add j) = some u) (hl : xs.length + l.length ≤ 1000) (hbase : base ≤ W.heap.size) :
    ∃ v' w', (∀ ty, (Builtin.append_ #[22, 22] ty #[v, .slice (some a) l.length c]).run Try.prog W = .ok v' w') ∧ w'.ownsRow base 58 4 v' (xs ++ l).length (cellsM (xs ++ l)) ∧ W.grownBy w' v.ownBlock ∧ (v' = .slice none 0 0 ↔ v = .slice none 0 0 ∧ l.length = 0) := by
  have hu : Try.prog.underlying 22 = some (.slice 58) := by kernel_rfl
  have hinfo : (Try.prog.info? 58).map (fun i => (i.zero, i.size, i.bytes)) = some (some (.agg #[(.int .i64 0), (.int .i64 0), (.int .i64 0), (.int .i64 0)]), 4, 32) := by kernel_rfl
  obtain ⟨ti, hi, hz, hs, hby⟩ := info_parts hinfo
  have hmx : maxLen = 9223372036854775807 := rfl
  obtain ⟨v', w', h1, h2, h3, h4⟩ := run_append_own (P := Try.prog) (w := W) base 22 22 58 ti _ 4 32 hu hi hz hs hby rfl (by decide) v xs.length (cellsM xs) hown a l.length c (cellsM l) (cellsM_len l) hnews (cellsM_one l) (by omega) (by omega) hbase
  refine ⟨v', w', fun ty => h1, ?_, h3, h4⟩
  rw [List.length_append, cellsM_append]
  exact h2
theorem own_form {W : World} {base e size n : Nat} {v : Value} {xs : List Value} (h : W.ownsRow base e size v n xs) (hv : v ≠ .slice none 0 0) : ∃ g c, v = .slice (some ⟨g, 0, none⟩) n c ∧ base ≤ g ∧ g < W.heap.size := by
  obtain ⟨h1, ⟨h0, _⟩ | ⟨g, cap, cur, rfl, hg, hh, hle, hcm, hs, ht⟩⟩ := h
  · exact absurd h0 hv
  · exact ⟨g, cap, rfl, hg, blk_lt hh⟩
theorem own_far {W : World} {base e size n g c : Nat} {xs : List Value} (h : W.ownsRow base e size (.slice (some ⟨g, 0, none⟩) n c) n xs) {p : Addr} (hp : g ≠ p.block) (u : Value) : (W.setCell p u).ownsRow base e size (.slice (some ⟨g, 0, none⟩) n c) n xs := by
  obtain ⟨h1, ⟨h0, _⟩ | ⟨g', cap, cur, h0, hg, hh, hle, hcm, hs, ht⟩⟩ := h
  · cases h0
  · injection h0 with e1 e2 e3
    injection e1 with e1
    injection e1 with e1 _ _
    subst e1 e3
    exact ⟨h1, .inr ⟨g, c, cur, rfl, hg, blk_far hh hp u, hle, hcm, hs, ht⟩⟩
section
variable {P : Program} {ops : Array Oper} {o : Oper} {a : Act} {Q : Exit → Act → World → Prop} {Kc : Act → World → Prop}
theorem append_step {W : World} (hw : Region.wanted o (yielded ops a.tmps) = true) (s x : Operand) (t : TypeId)
    (hop : o.op = Op.call { callee := Callee.builtin Builtin.append, args := #[s, x], argTypes := #[t, t] }) (vs vx v' : Value) (w' : World) (hs : a.eval s = vs) (hx : a.eval x = vx)
    (hrun : ∀ ty, (Builtin.append_ #[t, t] ty #[vs, vx]).run P W = .ok v' w') (h : Kc (a.put o.dst v') w') : if Region.wanted o (yielded ops a.tmps) = true then Oper.wp P o a W Kc Q else Kc (a.put o.dst undef) W :=
  event_step hw (by simp [execOp, hop, resolve, invoke, builtin, hs, hx, hrun]) h
end
end Go.Proofs.Ytfhmepdbbhcncaa.P

