import Derived.Test.YtfhmepdbbhcncaaE3
namespace Go.Proofs.Ytfhmepdbbhcncaa.P
open Go.RowKit Go.Proofs.YtfhmepdbbhcncaaW.PrintWords Go.Proofs.YtfhmepdbbhcncaaW.PrintLast Go.Proofs.YtfhmepdbbhcncaaW.PrintMore
set_option linter.unusedVariables false
set_option linter.unusedSimpArgs false

/-- What is asked of a function value that answers a number, at the elements of a list. -/
def PredI {α : Type} (g : Nat) (lb : Array Value) (enc : α → Value) (f : α → Int) (l : List α) (w : World) : Prop :=
  ∀ (W : World) (x : α), x ∈ l → Below w.heap.size w W → Calls Try.prog g (#[enc x] ++ lb) W fun e w' => e = .returned (.int .i64 (f x)) ∧ Below W.heap.size W w'

def leastStep (f : Int → Int) (b x : Int) : Int := if f x < f b then x else b
/-- the first element with the least number -/
def leastF (f : Int → Int) : List Int → Int
  | [] => 0
  | x :: xs => xs.foldl (leastStep f) x

theorem cut1_27 (A : Option Addr) (c : Nat) (x : Int) (xs : List Int) (hc : xs.length + 1 ≤ c) : ∃ A' : Option Addr,
    (∀ W : World, (Instr.slice 27 (.slice A (xs.length + 1) c) (some (.int .i64 1)) none none).run Try.prog W = .ok (.slice A' xs.length (c - 1)) W) ∧
    (∀ w : World, Kd.C (Kd.int .i64) w A (xs.length + 1) (x :: xs) → Kd.C (Kd.int .i64) w A' xs.length xs) := by
  obtain ⟨i, hi, _, hs, _⟩ := info_parts info3
  refine ⟨if c = 1 then A else A.map (·.add (1 * 1)), fun W => ?_, fun w h => ?_⟩
  · exact cut_from 27 3 .i64 Try.underlying27 hi 1 hs A (xs.length + 1) c 1 (by omega) (by omega) W
  · exact Kd.C_drop (c := c) (m := 1) h (by simp) (by simpa using hc)

theorem leastF_mem (f : Int → Int) : ∀ (xs : List Int) (x : Int), xs.foldl (leastStep f) x ∈ x :: xs
  | [], x => by simp
  | y :: ys, x => by
    have h := leastF_mem f ys (leastStep f x y)
    simp only [List.foldl_cons]
    unfold leastStep at h ⊢
    split at h <;> rename_i hc
    · rw [if_pos hc]
      exact List.mem_cons_of_mem _ h
    · rw [if_neg hc]
      rcases List.mem_cons.1 h with h | h
      · rw [h]; simp
      · exact List.mem_cons_of_mem _ (List.mem_cons_of_mem _ h)

theorem foldl_take_succ {α β : Type} (g : β → α → β) (b : β) (xs : List α) (i : Nat) (hi : i < xs.length) : (xs.take (i + 1)).foldl g b = g ((xs.take i).foldl g b) xs[i] := by
  rw [List.take_succ_eq_append_getElem hi, List.foldl_append]
  rfl

set_option maxHeartbeats 1000000 in
set_option maxRecDepth 100000 in
theorem least76 (g : Nat) (lb : Array Value) (f : Int → Int) (A : Option Addr) (c : Nat) (x : Int) (xs : List Int) (w : World)
    (eg : ∀ args w, (callFunc g args).run Try.prog w = .ok (.enter g args) w)
    (hr : Kd.C (Kd.int .i64) w A (xs.length + 1) (x :: xs)) (hc : xs.length + 1 ≤ c) (hp : PredI g lb (Value.int .i64) f (x :: xs) w) :
    Calls Try.prog 76 #[.slice A (xs.length + 1) c, .func (.func g) #[] lb] w fun e w' => e = .returned (.int .i64 (leastF f (x :: xs))) ∧ Below w.heap.size w w' := by
  obtain ⟨A', hcut, hreads⟩ := cut1_27 A c x xs hc
  have HR := Aside0.mk (hreads w hr)
  obtain ⟨ad, e0, hc0⟩ := Kd.at_int hr 0 (by omega) (by omega)
  have HP := Aside0.mk hp
  have HL := Aside0.mk hr.2.1
  have hc0' : w.cell? ad = some (.int .i64 x) := by simpa [Addr.add, rd] using hc0
  cases e0
  clear hr hp hreads hc0
  have hln : 0 < xs.length + 1 := by omega
  have hle := HL.out
  go_enter Try.func76, Try.ntmps76
  go_wp2
  go_loopg [5, 14] xs.length (fun kq v5 v14 w' => ∃ i : Nat, v14 = .int .i64 i ∧ v5 = .int .i64 ((xs.take i).foldl (leastStep f) x) ∧ Aside0 (i + kq = xs.length) ∧ Aside0 (Below w.heap.size w w'))
  case atStart => exact ⟨0, rfl, by simp, ⟨by omega⟩, ⟨Below.refl _ _⟩⟩
  case round =>
    obtain ⟨i, rfl, rfl, HI, HB⟩ := hrel
    clear hcut hc0'
    cases gk with
    | zero =>
      have hi : i = xs.length := by have := HI.out; omega
      have hlt : decide (i < xs.length) = false := by rw [hi]; simp
      have F := Lib.hid (show (xs.take i).foldl (leastStep f) x = leastF f (x :: xs) by rw [hi, List.take_length]; rfl)
      clear hi
      go_wp2
      go_ret
      exact ⟨by rw [← F.out]; rfl, HB.out⟩
    | succ k1 =>
      have hi : i < xs.length := by have := HI.out; omega
      have hlt : decide (i < xs.length) = true := by simp [hi]
      have hC := Kd.C_below HR.out HB.out
      obtain ⟨ad', e0, hc0⟩ := Kd.at_int hC (i : Int) (by omega) (by omega)
      cases e0
      rw [Int.toNat_natCast, rd_nat xs i hi] at hc0
      have F := Lib.hid (foldl_take_succ (leastStep f) x xs i hi)
      have hm := leastF_mem f (xs.take i) x
      have hm' : (xs.take i).foldl (leastStep f) x ∈ x :: xs := by
        rcases List.mem_cons.1 hm with h | h
        · rw [h]; simp
        · exact List.mem_cons_of_mem _ (List.mem_of_mem_take h)
      generalize hb0 : (xs.take i).foldl (leastStep f) x = b0 at *
      have hpx := Lib.hid (fun W hb => HP.out W xs[i] (by simp) hb)
      have hpb := Lib.hid (fun W hb => HP.out W b0 hm' hb)
      generalize hy : xs[i] = y at *
      have F2 := F
      clear hm hm' hC hb0 F
      clear hy
      go_wp2_with fail
      refine (hpx.out _ HB.out).mono ?_
      rintro e w2 ⟨rfl, hb2⟩
      go_wp2_with fail
      refine (hpb.out _ (after HB.out hb2)).mono ?_
      rintro e w3 ⟨rfl, hb3⟩
      have HB3 := Aside0.mk (after (after HB.out hb2) hb3)
      by_cases hlt2 : f y < f b0
      · go_wp2
        go_roundg k1
        case rel => exact ⟨i + 1, by go_num, by rw [F2.out, leastStep, if_pos (by omega)], ⟨by have := HI.out; omega⟩, HB3⟩
        case measure => omega
      · go_wp2
        go_roundg k1
        case rel => exact ⟨i + 1, by go_num, by rw [F2.out, leastStep, if_neg (by omega)], ⟨by have := HI.out; omega⟩, HB3⟩
        case measure => omega
end Go.Proofs.Ytfhmepdbbhcncaa.P
