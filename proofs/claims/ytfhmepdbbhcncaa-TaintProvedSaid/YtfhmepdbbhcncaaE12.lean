import Derived.Test.YtfhmepdbbhcncaaE11
namespace Go.Proofs.Ytfhmepdbbhcncaa.P
open Go.RowKit Go.Shelf Go.Proofs.YtfhmepdbbhcncaaW.PrintWords Go.Proofs.YtfhmepdbbhcncaaW.PrintLast Go.Proofs.YtfhmepdbbhcncaaW.PrintMore Go.Proofs.YtfhmepdbbhcncaaM Go.Proofs.YtfhmepdbbhcncaaR
set_option linter.unusedVariables false
set_option linter.unusedSimpArgs false

theorem opened (w1 : World) (n : Int) (s : Value) (sv st : Int) : SAt (w1.alloc (.cells (searchCells n s sv st) 96)) w1.heap.size n s sv st (List.replicate 20 0) (.map none) :=
  ⟨Blk.new w1 (searchCells n s sv st) 96, by simp⟩

/-- what open has looked at -/
structure YardOK (n : Int) (l : List S58) : Prop where
  n1 : 1 ≤ n
  n2 : n ≤ 20
  len : l.length ≤ 40
  mv : ∀ m ∈ l, 0 ≤ m.f0 ∧ m.f0 < n ∧ 0 ≤ m.f1 ∧ m.f1 < n ∧ m.f0 ≠ m.f1 ∧ 0 ≤ m.f2.f0 ∧ m.f2.f0 ≤ m.f2.f1 ∧ m.f2.f1 ≤ 100000
theorem yardOK {n : Int} {l : List S58} (h : checkYard n l = 0) : YardOK n l := by
  unfold checkYard at h
  split at h
  · cases h
  · split at h
    · cases h
    · split at h
      · cases h
      · rename_i h1 h2 h3
        refine ⟨by omega, by omega, by omega, fun m hm => ?_⟩
        have hb : badMove n m = false := by
          cases hbm : badMove n m with
          | false => rfl
          | true => exact absurd (List.any_eq_true.2 ⟨m, hm, hbm⟩) h3
        simp [badMove, withinB] at hb
        omega
theorem openOK {n : Int} {l : List S58} {sv st : Int} {vs : List Int} (h : openE n l sv st vs = 0) : YardOK n l ∧ 0 ≤ sv ∧ sv < n ∧ 0 ≤ st ∧ st ≤ 100000 ∧ ∀ v ∈ vs, 0 ≤ v ∧ v < n := by
  unfold openE at h
  split at h
  · rename_i h1; exact absurd h h1
  · rename_i h0
    split at h
    · cases h
    · rename_i h1
      split at h
      · cases h
      · rename_i h2
        simp [isV, withinB] at h1 h2
        exact ⟨yardOK (by simpa using h0), by omega, by omega, by omega, by omega, fun v hv => by have := h2 v hv; omega⟩

def soonF (t : Int) (m : S58) : Int × Bool := (max t m.f2.f0, decide (t ≤ m.f2.f1))
def sureF (t : Int) (m : S58) : Int × Bool := (m.f2.f1, decide (t ≤ m.f2.f0))

/-- run, by soonest or surest and any, behind open. -/
theorem run_any (step : Int → S58 → Int × Bool) (gs : Nat) (hgs : (gs = 55 ∧ step = soonF) ∨ (gs = 56 ∧ step = sureF)) (n : Int) (A : Option Addr) (c : Nat) (l : List S58) (sv st : Int) (cm0 : List Int) (m0 : Value) (B : Nat) (w0 w : World)
    (hS : SAt w B n (.slice A l.length c) sv st cm0 m0) (hy : YardOK n l) (hsv : 0 ≤ sv) (hsv2 : sv < n) (hr : Kd.C k58 w0 A l.length l) (hw0 : w0.heap.size ≤ B) (hkeep : ∀ k, k < w0.heap.size → w.heap[k]? = w0.heap[k]?) :
    Calls Try.prog 61 #[.pointer (some ⟨B, 0, none⟩), .func (.func gs) #[] #[], .func (.func 62) #[.pointer (some ⟨B, 0, none⟩)] #[]] w (RunPost B n (.slice A l.length c) sv st w (runC step (fun _ => true) n l sv st)) := by
  refine run_calls B n A c l sv st cm0 m0 gs 62 #[.pointer (some ⟨B, 0, none⟩)] #[] step (fun _ => true) w0 w hS hy.n1 hy.n2 hsv hsv2 (fun m hm => ⟨(hy.mv m hm).2.2.1, (hy.mv m hm).2.2.2.1⟩) hr hw0 hkeep ?_ (enters_of Try.func62 (by kernel_rfl) rfl) ?_ (fun W m _ => any_calls _ m W)
  · rcases hgs with ⟨rfl, _⟩ | ⟨rfl, _⟩
    · exact enters_of Try.func55 (by kernel_rfl) rfl
    · exact enters_of Try.func56 (by kernel_rfl) rfl
  · intro W t m
    rcases hgs with ⟨rfl, rfl⟩ | ⟨rfl, rfl⟩
    · exact soonest_calls t m W
    · exact surest_calls t m W

theorem runL_len (step : Int → S58 → Int × Bool) (may : S58 → Bool) (l : List S58) : ∀ (k : Nat) (left : List Int) (s : List Int × (Int → Option Int)), (runL step may l k left s).1.length = s.1.length
  | 0, _, _ => rfl
  | k + 1, left, s => by
    have hb : ∀ (v : Int) (x : Int × S58) (s : List Int × (Int → Option Int)), (bodyF step may v s x).1.length = s.1.length := by
      intro v x s; unfold bodyF; split <;> simp
    have hf : ∀ (v : Int) (xs : List (Int × S58)) (s : List Int × (Int → Option Int)), (xs.foldl (bodyF step may v) s).1.length = s.1.length := by
      intro v xs
      induction xs with
      | nil => intro s; rfl
      | cons x xs ih => intro s; rw [List.foldl_cons, ih, hb]
    rw [runL]
    split
    · rfl
    · simp only []
      split
      · rfl
      · rw [runL_len, hf]
theorem runC_len (step : Int → S58 → Int × Bool) (may : S58 → Bool) (n : Int) (l : List S58) (sv st : Int) : (runC step may n l sv st).1.length = 20 := by
  unfold runC; rw [runL_len]; simp [come0]

set_option maxHeartbeats 1000000 in
set_option maxRecDepth 100000 in
/-- slices.Clone at numbers that lie in a row. -/
theorem clone63 (b off c : Nat) (zs : List Int) (w : World) (hn : 0 < zs.length) (hn2 : zs.length ≤ 1000) (hc : ∀ j (h : j < zs.length), w.cell? ⟨b, off + j, none⟩ = some (.int .i64 zs[j])) :
    Calls Try.prog 63 #[.slice (some ⟨b, off, none⟩) zs.length c] w fun e w' => ∃ b' cap, e = .returned (.slice (some ⟨b', 0, none⟩) zs.length cap) ∧ w.heap.size ≤ b' ∧ RowC w' b' 2 cap zs ∧ Below w.heap.size w w' := by
  have hap : ∃ v' w', (∀ ty, (Builtin.append_ #[28, 28] ty #[.slice (some ⟨w.heap.size, 0, none⟩) 0 0, .slice (some ⟨b, off, none⟩) zs.length c]).run Try.prog (w.alloc (.cells #[] 2)) = .ok v' w') ∧
      w'.ownsRow (w.alloc (.cells #[] 2)).heap.size 2 1 v' (0 + zs.length) ([] ++ zs.map (Value.int .i64)) ∧ (w.alloc (.cells #[] 2)).grownBy w' none := by
    obtain ⟨ti, hi, hz, hs, hby⟩ := info_parts info2
    have hmx : maxLen = 9223372036854775807 := rfl
    obtain ⟨v', w', h1, h2, h3⟩ := run_append_arg_grows (P := Try.prog) (w.alloc (.cells #[] 2)) 28 28 2 ti (.int .i64 0) 1 8 Try.underlying28 hi hz hs hby rfl (by decide) ⟨w.heap.size, 0, none⟩ 0 0 [] rfl (fun j u hu => by simp at hu) ⟨b, off, none⟩ zs.length c (zs.map (Value.int .i64)) (by simp)
      (fun j u hu => by
        have hj : j < zs.length := by have := (List.getElem?_eq_some_iff.1 hu).1; simpa using this
        have h4 : (w.alloc (.cells #[] 2)).cell? ⟨b, off + j, none⟩ = some (.int .i64 zs[j]) := cell_in ((Below.refl w.heap.size w).alloc (Nat.le_refl _) (.cells #[] 2)) (hc j hj)
        rw [List.getElem?_map, List.getElem?_eq_getElem hj] at hu
        simp only [Option.map_some, Option.some.injEq] at hu
        rw [← hu, Addr.add_lit]
        exact h4) (by omega) (by omega) (by omega)
    exact ⟨v', w', fun ty => h1, h2, h3⟩
  obtain ⟨v', w', hap, ho, hg⟩ := hap
  have HO := Lib.hid ho
  have HG := Lib.hid hg
  clear ho hg
  have heq : ∀ W, (binOp .eql 28 (.slice (some ⟨b, off, none⟩) zs.length c) (.slice none 0 0)).run Try.prog W = .ok (.bool false) W := fun W => by kernel_rfl
  go_enter Try.func63, Try.ntmps63
  go_wp2_with ((with_reducible refine gate_builtin (b := .append) (xs := #[.tmp 5, .tmp 6]) rfl ?_); at_builtin; refine append_run rfl (.tmp 5) (.tmp 6) 28 rfl _ _ v' w' rfl rfl hap ?_)
  go_ret
  have ho := HO.out
  rw [List.nil_append, Nat.zero_add] at ho
  obtain ⟨b', cap, rfl, hb, hl, hrow⟩ := RowC.of_own ho hn
  have hg := HG.out
  refine ⟨b', cap, rfl, by simp at hb; omega, hrow, ⟨hg.os, hg.tape, hg.output, ?_, fun k hk => ?_⟩⟩
  · have := hg.size; simp at this; omega
  · exact (hg.block k (by simp; omega) (by simp)).trans ((World.grownBy_alloc w (.cells #[] 2) none).block k hk (by simp))
end Go.Proofs.Ytfhmepdbbhcncaa.P
