import Derived.Test.YtfhmepdbbhcncaaE5
namespace Go.Proofs.Ytfhmepdbbhcncaa.P
open Go.RowKit Go.Proofs.YtfhmepdbbhcncaaW.PrintWords Go.Proofs.YtfhmepdbbhcncaaW.PrintLast Go.Proofs.YtfhmepdbbhcncaaW.PrintMore
set_option linter.unusedVariables false
set_option linter.unusedSimpArgs false

/-- PredB, where block b may be written between the calls. -/
def PredG {α : Type} (g : Nat) (lb : Array Value) (enc : α → Value) (p : α → Bool) (b : Nat) (w : World) : Prop :=
  ∀ (W : World) (x : α), w.grownBy W (some b) → Calls Try.prog g (#[enc x] ++ lb) W fun e w' => e = .returned (.bool (p x)) ∧ Below W.heap.size W w'
theorem grown_of_below {w W : World} (h : Below w.heap.size w W) (row : Option Nat) : w.grownBy W row := ⟨h.os, h.tape, h.output, h.size, fun k hk _ => h.block k hk⟩
theorem PredG.B {α : Type} {g : Nat} {lb : Array Value} {enc : α → Value} {p : α → Bool} {b : Nat} {w : World} (h : PredG g lb enc p b w) : PredB g lb enc p w :=
  fun W x hb => h W x (grown_of_below hb _)

theorem filter_take_succ (p : Int → Bool) (xs : List Int) (j : Nat) (hj : j < xs.length) : (xs.take (j + 1)).filter p = (xs.take j).filter p ++ if p xs[j] then [xs[j]] else [] := by
  rw [List.take_succ_eq_append_getElem hj, List.filter_append]
  by_cases h : p xs[j] <;> simp [h]
theorem set_take_succ (ys : List Int) (i : Nat) (x : Int) (hi : i < ys.length) : (ys.set i x).take (i + 1) = ys.take i ++ [x] := by
  rw [List.take_succ_eq_append_getElem (by simpa using hi)]
  simp [List.take_set]
  rw [List.set_eq_of_length_le (by simp; omega)]
theorem set_drop_succ (ys : List Int) (i j : Nat) (x : Int) (hi : i < j) : (ys.set i x).drop j = ys.drop j := by
  rw [List.drop_set]; simp [hi]

theorem cut_from_27 (b n cap i : Nat) (h1 : i ≤ n) (h2 : i ≠ cap) (W : World) :
    (Instr.slice 27 (.slice (some ⟨b, 0, none⟩) n cap) (some (.int .i64 (i : Int))) none none).run Try.prog W = .ok (.slice (some ⟨b, i, none⟩) (n - i) (cap - i)) W := by
  obtain ⟨ti, hi, _, hs, _⟩ := info_parts info3
  rw [cut_from 27 3 .i64 Try.underlying27 hi 1 hs (some ⟨b, 0, none⟩) n cap (i : Int) (by omega) (by omega) W]
  rw [Int.toNat_natCast, if_neg (by omega)]
  have : (⟨b, 0, none⟩ : Addr).add i = ⟨b, i, none⟩ := by simp [Addr.add]; intro h; rw [h]
  simp [this]
theorem cut_to_27 (b n cap i : Nat) (h1 : i ≤ n) (h2 : n ≤ cap) (W : World) :
    (Instr.slice 27 (.slice (some ⟨b, 0, none⟩) n cap) none (some (.int .i64 (i : Int))) none).run Try.prog W = .ok (.slice (some ⟨b, 0, none⟩) i cap) W := by
  obtain ⟨ti, hi, _, hs, _⟩ := info_parts info3
  rw [cut_to 27 3 .i64 Try.underlying27 hi (some ⟨b, 0, none⟩) n cap (i : Int) (by omega) (by omega) h2 W]
  rw [Int.toNat_natCast]

theorem zero3 (w : World) : (zeroValue 3).run Try.prog w = .ok (.int .i64 0) w := by kernel_rfl
theorem clear_27 {w : World} {b cap : Nat} {ys : List Int} (h : RowC w b 3 cap ys) (i : Nat) (hi : i < ys.length) (ty : TypeId) (c : Nat) :
    ∃ w', (Builtin.clear_ #[27] ty #[.slice (some ⟨b, i, none⟩) (ys.length - i) c]).run Try.prog w = .ok (.tuple #[]) w' ∧ w.grownBy w' (some b) ∧ RowC w' b 3 cap (ys.take i) := by
  obtain ⟨cur, hb, hs, hc⟩ := h.ex
  have hle := h.le
  obtain ⟨cur', h1, h2, h3, _, _, h6⟩ := Blk.sets (List.replicate (ys.length - i) (.int .i64 0)) i w cur hb (by simp; omega)
  refine ⟨w.setCells b i (List.replicate (ys.length - i) (.int .i64 0)), Lib.run_clear_slice w 27 3 ty (.int .i64 0) Try.underlying27 zero3 rfl rfl b i (ys.length - i) c (by omega) (fun j hj => ?_) (fun j hj => hb.fz _), h6, ⟨⟨cur', h1, by omega, fun j hj => ?_⟩, by simp; omega, h.cap_le⟩⟩
  · rw [h.cell (i + j) (by omega)]; rfl
  · have hj' : j < i ∧ j < ys.length := by simp at hj; omega
    rw [h3 j hj'.1, hc j hj'.2]; simp

set_option maxHeartbeats 2000000 in
set_option maxRecDepth 100000 in
theorem DeleteFunc78 (g : Nat) (lb : Array Value) (p : Int → Bool) (b cap : Nat) (xs : List Int) (w : World)
    (eg : ∀ args w, (callFunc g args).run Try.prog w = .ok (.enter g args) w)
    (hr : RowC w b 3 cap xs) (hp : PredG g lb (Value.int .i64) p b w) :
    Calls Try.prog 78 #[.slice (some ⟨b, 0, none⟩) xs.length cap, .func (.func g) #[] lb] w
      fun e w' => ∃ ys, ys = xs.filter (fun x => !p x) ∧ e = .returned (.slice (some ⟨b, 0, none⟩) ys.length cap) ∧ RowC w' b 3 cap ys ∧ w.grownBy w' (some b) := by
  have HI := Lib.hid (IndexFunc74 g lb p (some ⟨b, 0, none⟩) cap xs w eg hr.reads hp.B)
  have HR := Lib.hid hr
  have HP := Lib.hid hp
  have hle := hr.le
  have hcm := hr.cap_le
  unfold maxLen at hcm
  clear hr hp
  cases hfi : xs.findIdx? p with
  | none =>
    have F := Lib.hid (show idxP p xs = -1 by simp [idxP, hfi])
    have G := Lib.hid (show xs.filter (fun x => !p x) = xs by
      rw [List.filter_eq_self]
      rw [List.findIdx?_eq_none_iff] at hfi
      intro a ha; simp [hfi a ha])
    clear hfi
    go_enter Try.func78, Try.ntmps78
    go_wp2_with (go_at_call 74; refine (HI.out).mono ?_; rintro e w1 ⟨rfl, hb1⟩; rw [F.out])
    go_ret
    exact ⟨xs, G.out.symm, rfl, HR.out.below hb1 HR.out.lt, grown_of_below hb1 _⟩
  | some i0 =>
    rw [List.findIdx?_eq_some_iff_getElem] at hfi
    obtain ⟨hi0, hp0, hpn⟩ := hfi
    have F := Lib.hid (show idxP p xs = (i0 : Int) from idxP_hit p xs i0 hi0 (fun j hj h => by simpa using hpn j h) hp0)
    have G0 := Lib.hid (show xs.take i0 = (xs.take (i0 + 1)).filter (fun x => !p x) by
      rw [filter_take_succ (fun x => !p x) xs i0 hi0]
      simp only [hp0]
      simp
      symm
      rw [List.filter_eq_self]
      intro a ha
      obtain ⟨j, hj, rfl⟩ := List.mem_iff_getElem.1 ha
      have hj2 : j < i0 := Nat.lt_of_lt_of_le hj (List.length_take_le _ _)
      have := hpn j hj2
      simpa using this)
    clear hp0 hpn
    have hq : ((i0 : Int) == -1) = false := by simp
    go_enter Try.func78, Try.ntmps78
    go_wp2_with (go_at_call 74; refine (HI.out).mono ?_; rintro e w1 ⟨rfl, hb1⟩; rw [F.out])
    have HR1 := HR.out.below hb1 HR.out.lt
    have HG1 := grown_of_below hb1 (some b)
    go_loopg [5, 6] (xs.length - (i0 + 1)) (fun kq v5 v6 w' => ∃ (i j : Nat) (ys : List Int), v5 = .int .i64 i ∧ v6 = .int .i64 j ∧ Aside0 (i < j) ∧ Aside0 (j + kq = xs.length) ∧ Aside0 (ys.length = xs.length) ∧ Aside0 (ys.take i = (xs.take j).filter (fun x => !p x)) ∧ Aside0 (ys.drop j = xs.drop j) ∧ Aside0 (RowC w' b 3 cap ys) ∧ Aside0 (w.grownBy w' (some b)))
    case atStart => exact ⟨i0, i0 + 1, xs, rfl, by go_num, ⟨by omega⟩, ⟨by omega⟩, ⟨rfl⟩, ⟨G0.out⟩, ⟨rfl⟩, ⟨HR1⟩, ⟨HG1⟩⟩
    case round =>
      obtain ⟨i, j, ys, rfl, rfl, HIJ, HK, HLY, HT, HD, HRY, HGY⟩ := hrel
      clear hb1 HR1 HG1 hq hi0
      cases gk with
      | zero =>
        have hj : j = xs.length := by have := HK.out; omega
        have hlt : decide (j < xs.length) = false := by rw [hj]; simp
        have hij : i < xs.length := by have := HIJ.out; omega
        obtain ⟨w2, hclr, hg2, hr2⟩ := clear_27 HRY.out i (by have := HLY.out; omega) 0 (cap - i)
        rw [HLY.out] at hclr
        have hfrom := cut_from_27 b xs.length cap i (by omega) (by omega)
        have hto := cut_to_27 b xs.length cap i (by omega) (by omega)
        have HT2 := Lib.hid (show ys.take i = xs.filter (fun x => !p x) by rw [HT.out, hj, List.take_length])
        have HLT := Lib.hid (show (ys.take i).length = i by have := HLY.out; simp; omega)
        have Hr2 := Lib.hid hr2
        clear hr2 hj
        go_wp2
        go_ret
        refine ⟨ys.take i, HT2.out, ?_, Hr2.out, HGY.out.trans hg2⟩
        rw [HLT.out]
        rfl
      | succ k1 =>
        have hj : j < xs.length := by have := HK.out; omega
        have hlt : decide (j < xs.length) = true := by simp [hj]
        have hjy : j < ys.length := by have := HLY.out; omega
        have hiy : i < ys.length := by have := HLY.out; have := HIJ.out; omega
        have hyx : ys[j] = xs[j] := by
          have h1 : (ys.drop j)[0]? = (xs.drop j)[0]? := by rw [HD.out]
          simpa [hjy, hj] using h1
        have hc0 : wr.cell? ⟨b, j, none⟩ = some (.int .i64 xs[j]) := by rw [HRY.out.cell j hjy, hyx]
        have hci : wr.cell? ⟨b, i, none⟩ = some (.int .i64 ys[i]) := HRY.out.cell i hiy
        have hpx := Lib.hid (HP.out wr xs[j] HGY.out)
        have HF := Lib.hid (filter_take_succ (fun x => !p x) xs j hj)
        have HD2 := Lib.hid (show ys.drop (j + 1) = xs.drop (j + 1) by
          have := congrArg (List.drop 1) HD.out
          rw [List.drop_drop, List.drop_drop] at this
          exact this)
        have HS1 := Lib.hid (set_take_succ ys i xs[j] hiy)
        have HS2 := Lib.hid (set_drop_succ ys i (j + 1) xs[j] (by have := HIJ.out; omega))
        have HS3 := Lib.hid (HRY.out.set i hiy xs[j])
        have hij := HIJ.out
        have hixs : i < xs.length := by omega
        generalize hx : xs[j] = x at *
        generalize hyi : ys[i] = yi at *
        clear hx hyi hyx
        cases hpv : p x with
        | true =>
          have HPV := Lib.hid hpv
          clear hpv
          go_wp2_with fail
          refine (hpx.out).mono ?_
          rintro e w2 ⟨rfl, hb2⟩
          rw [HPV.out]
          go_wp2
          go_roundg k1
          case rel => exact ⟨i, j + 1, ys, rfl, by go_num, ⟨by omega⟩, ⟨by have := HK.out; omega⟩, HLY, ⟨by rw [HF.out, HPV.out, ← HT.out]; simp⟩, ⟨HD2.out⟩, ⟨HRY.out.below hb2 HRY.out.lt⟩, ⟨HGY.out.trans (grown_of_below hb2 _)⟩⟩
          case measure => omega
        | false =>
          have HPV := Lib.hid hpv
          clear hpv
          go_wp2_with fail
          refine (hpx.out).mono ?_
          rintro e w2 ⟨rfl, hb2⟩
          rw [HPV.out]
          have hlt3 := HRY.out.lt
          have hci2 : w2.cell? ⟨b, i, none⟩ = some (.int .i64 yi) := cell_in hb2 hci
          have hfz2 : w2.frozen? ⟨b, i, none⟩ = false := (HRY.out.below hb2 hlt3).fz i
          go_wp2
          go_roundg k1
          case rel => exact ⟨i + 1, j + 1, ys.set i x, by go_num, by go_num, ⟨by omega⟩, ⟨by have := HK.out; omega⟩, ⟨by have := HLY.out; simpa using this⟩, ⟨by rw [HS1.out, HF.out, HPV.out, HT.out]; simp⟩, ⟨by rw [HS2.out, HD2.out]⟩, ⟨(HRY.out.below hb2 hlt3).set i hiy x⟩, ⟨(HGY.out.trans (grown_of_below hb2 _)).trans (grown_set _ _ _ _)⟩⟩
          case measure => omega
end Go.Proofs.Ytfhmepdbbhcncaa.P
