import Derived.Test.YtfhmepdbbhcncaaPx0
import Derived.Lib.Hide
import Derived.Outline
import Derived.Shelf.Abstract
namespace Go.Proofs.Ytfhmepdbbhcncaa.P
open Go.RowKit Go.Proofs.YtfhmepdbbhcncaaW.PrintWords Go.Proofs.YtfhmepdbbhcncaaW.PrintLast Go.Proofs.YtfhmepdbbhcncaaW.PrintMore
set_option linter.unusedVariables false
set_option linter.unusedSimpArgs false

/-- What is asked of a function value that answers a bool: it answers p x, and leaves what was there. -/
def PredB {α : Type} (g : Nat) (lb : Array Value) (enc : α → Value) (p : α → Bool) (w : World) : Prop :=
  ∀ (W : World) (x : α), Below w.heap.size w W → Calls Try.prog g (#[enc x] ++ lb) W fun e w' => e = .returned (.bool (p x)) ∧ Below W.heap.size W w'

def idxP {α : Type} (p : α → Bool) (l : List α) : Int := match l.findIdx? p with | some i => (i : Int) | none => -1

theorem idxP_hit {α : Type} (p : α → Bool) (l : List α) (i : Nat) (hi : i < l.length) (h0 : ∀ j (hj : j < l.length), j < i → p l[j] = false) (h1 : p l[i] = true) : idxP p l = (i : Int) := by
  have : l.findIdx? p = some i := by
    rw [List.findIdx?_eq_some_iff_getElem]
    exact ⟨hi, h1, fun j hj => by simp [h0 j (by omega) hj]⟩
  simp [idxP, this]
theorem idxP_miss {α : Type} (p : α → Bool) (l : List α) (h0 : ∀ j (hj : j < l.length), p l[j] = false) : idxP p l = -1 := by
  have : l.findIdx? p = none := by
    rw [List.findIdx?_eq_none_iff]
    intro x hx
    obtain ⟨j, hj, rfl⟩ := List.mem_iff_getElem.1 hx
    exact h0 j hj
  simp [idxP, this]
theorem idxP_any {α : Type} (p : α → Bool) (l : List α) : decide (0 ≤ idxP p l) = l.any p := by
  unfold idxP
  cases h : l.findIdx? p with
  | some i =>
    have : l.any p = true := by
      rw [List.findIdx?_eq_some_iff_getElem] at h
      obtain ⟨hi, h1, _⟩ := h
      exact List.any_eq_true.2 ⟨l[i], List.getElem_mem hi, h1⟩
    rw [this]; simp
  | none =>
    have : l.any p = false := by
      rw [List.findIdx?_eq_none_iff] at h
      rw [List.any_eq_false]
      intro x hx; simpa using h x hx
    rw [this]; simp
theorem rd_nat (l : List Int) (i : Nat) (hi : i < l.length) : rd l (i : Int) = l[i] := by
  simp [rd, hi]
theorem rd_T58_nat (l : List S58) (i : Nat) (hi : i < l.length) : rd_T58 l (i : Int) = l[i] := by
  simp [rd_T58, hi]
theorem kdC_int {w : World} {b : Nat} (xs : List Int) (hl : xs.length ≤ 9223372036854775807) (h : ∀ j (hj : j < xs.length), w.cell? ⟨b, j, none⟩ = some (.int .i64 xs[j])) : Kd.C (Kd.int .i64) w (some ⟨b, 0, none⟩) xs.length xs :=
  Kd.C_of_reads (enc := Value.int .i64) (d := (0 : Int)) (h1 := fun _ => rfl) ⟨rfl, hl, fun _ => ⟨_, rfl, fun j hj => by
    have := h j hj
    have e : (⟨b, 0, none⟩ : Addr).add j = ⟨b, j, none⟩ := by simp [Addr.add]; intro h0; rw [h0]
    rw [e, this]
    simp [hj]⟩⟩
theorem kdC_one {w : World} {b : Nat} {x : Int} (h : w.cell? ⟨b, 0, none⟩ = some (.int .i64 x)) : Kd.C (Kd.int .i64) w (some ⟨b, 0, none⟩) 1 [x] :=
  kdC_int [x] (by simp) (fun j hj => by
    obtain rfl : j = 0 := by simp at hj; omega
    exact h)
theorem kdC_two {w : World} {b : Nat} {x y : Int} (h : w.cell? ⟨b, 0, none⟩ = some (.int .i64 x)) (h' : w.cell? ⟨b, 1, none⟩ = some (.int .i64 y)) : Kd.C (Kd.int .i64) w (some ⟨b, 0, none⟩) 2 [x, y] :=
  kdC_int [x, y] (by simp) (fun j hj => by
    rcases j with _ | _ | j
    · exact h
    · exact h'
    · exfalso; simp at hj; omega)
def enc58 (m : S58) : Value := .agg #[.int .i64 m.f0, .int .i64 m.f1, .int .i64 m.f2.f0, .int .i64 m.f2.f1]

set_option maxHeartbeats 1000000 in
set_option maxRecDepth 100000 in
theorem IndexFunc75 (g : Nat) (lb : Array Value) (p : Int → Bool) (A : Option Addr) (c : Nat) (l : List (Int)) (w : World)
    (eg : ∀ args w, (callFunc g args).run Try.prog w = .ok (.enter g args) w)
    (hr : Kd.C (Kd.int .i64) w A l.length l) (hp : PredB g lb (Value.int .i64) p w) :
    Calls Try.prog 75 #[.slice A l.length c, .func (.func g) #[] lb] w fun e w' => e = .returned (.int .i64 (idxP p l)) ∧ Below w.heap.size w w' := by
  have HR0 := Aside0.mk hr
  have HP := Aside0.mk hp
  have HL := Aside0.mk hr.2.1
  clear hr hp
  go_enter Try.func75, Try.ntmps75
  go_wp2
  go_loopg [8] l.length (fun kq v8 w' => ∃ i : Nat, v8 = .int .i64 i ∧ Aside0 (i + kq = l.length) ∧ Aside0 (∀ j (hj : j < l.length), j < i → p l[j] = false) ∧ Aside0 (Below w.heap.size w w'))
  case atStart => exact ⟨0, rfl, ⟨by omega⟩, ⟨fun j hj h => absurd h (by omega)⟩, ⟨Below.refl _ _⟩⟩
  case round =>
    obtain ⟨i, rfl, HI, HN, HB⟩ := hrel
    cases gk with
    | zero =>
      have hi : i = l.length := by have := HI.out; omega
      have hlt : decide (i < l.length) = false := by rw [hi]; simp
      go_wp2
      go_ret
      refine ⟨?_, HB.out⟩
      rw [idxP_miss p l (fun j hj => HN.out j hj (by omega))]
      rfl
    | succ k1 =>
      have hi : i < l.length := by have := HI.out; omega
      have hlt : decide (i < l.length) = true := by simp [hi]
      have hC := Kd.C_below HR0.out HB.out
      obtain ⟨ad, e0, hc0⟩ := Kd.at_int hC (i : Int) (by omega) (by omega)
      cases e0
      rw [Int.toNat_natCast] at hc0
      have hpp := Lib.hid (HP.out wr (rd l (i : Int)) HB.out)
      have hle := HL.out
      clear hC
      go_wp2_with (go_at_fn g; refine (hpp.out).mono ?_; rintro e w' ⟨rfl, hb⟩)
      · have hpx : p (rd l (i : Int)) = true := by assumption
        have hpi : p l[i] = true := by rwa [rd_nat l i hi] at hpx
        go_ret
        exact ⟨by rw [idxP_hit p l i hi (fun j hj h => HN.out j hj h) hpi]; rfl, HB.out.trans (hb.mono HB.out.size)⟩
      · have hpx : p (rd l (i : Int)) = false := by assumption
        have hpi : p l[i] = false := by rwa [rd_nat l i hi] at hpx
        go_roundg k1
        case rel => exact ⟨i + 1, by go_num, ⟨by have := HI.out; omega⟩, ⟨fun j hj h => by
          by_cases e : j = i
          · subst e; exact hpi
          · exact HN.out j hj (by omega)⟩, ⟨HB.out.trans (hb.mono HB.out.size)⟩⟩
        case measure => omega

set_option maxHeartbeats 400000 in
set_option maxRecDepth 100000 in
theorem ContainsFunc58 (g : Nat) (lb : Array Value) (p : Int → Bool) (A : Option Addr) (c : Nat) (l : List (Int)) (w : World)
    (eg : ∀ args w, (callFunc g args).run Try.prog w = .ok (.enter g args) w)
    (hr : Kd.C (Kd.int .i64) w A l.length l) (hp : PredB g lb (Value.int .i64) p w) :
    Calls Try.prog 58 #[.slice A l.length c, .func (.func g) #[] lb] w fun e w' => e = .returned (.bool (l.any p)) ∧ Below w.heap.size w w' := by
  have H := Lib.hid (IndexFunc75 g lb p A c l w eg hr hp)
  have HQ := Lib.hid (idxP_any p l)
  clear hr hp eg
  go_enter Try.func58, Try.ntmps58
  go_wp2_with (go_at_call 75; refine (H.out).mono ?_; rintro e w' ⟨rfl, hb⟩)
  go_ret
  exact ⟨by rw [← HQ.out]; rfl, hb⟩

set_option maxHeartbeats 1000000 in
set_option maxRecDepth 100000 in
theorem IndexFunc74 (g : Nat) (lb : Array Value) (p : Int → Bool) (A : Option Addr) (c : Nat) (l : List (Int)) (w : World)
    (eg : ∀ args w, (callFunc g args).run Try.prog w = .ok (.enter g args) w)
    (hr : Kd.C (Kd.int .i64) w A l.length l) (hp : PredB g lb (Value.int .i64) p w) :
    Calls Try.prog 74 #[.slice A l.length c, .func (.func g) #[] lb] w fun e w' => e = .returned (.int .i64 (idxP p l)) ∧ Below w.heap.size w w' := by
  have HR0 := Aside0.mk hr
  have HP := Aside0.mk hp
  have HL := Aside0.mk hr.2.1
  clear hr hp
  go_enter Try.func74, Try.ntmps74
  go_wp2
  go_loopg [8] l.length (fun kq v8 w' => ∃ i : Nat, v8 = .int .i64 i ∧ Aside0 (i + kq = l.length) ∧ Aside0 (∀ j (hj : j < l.length), j < i → p l[j] = false) ∧ Aside0 (Below w.heap.size w w'))
  case atStart => exact ⟨0, rfl, ⟨by omega⟩, ⟨fun j hj h => absurd h (by omega)⟩, ⟨Below.refl _ _⟩⟩
  case round =>
    obtain ⟨i, rfl, HI, HN, HB⟩ := hrel
    cases gk with
    | zero =>
      have hi : i = l.length := by have := HI.out; omega
      have hlt : decide (i < l.length) = false := by rw [hi]; simp
      go_wp2
      go_ret
      refine ⟨?_, HB.out⟩
      rw [idxP_miss p l (fun j hj => HN.out j hj (by omega))]
      rfl
    | succ k1 =>
      have hi : i < l.length := by have := HI.out; omega
      have hlt : decide (i < l.length) = true := by simp [hi]
      have hC := Kd.C_below HR0.out HB.out
      obtain ⟨ad, e0, hc0⟩ := Kd.at_int hC (i : Int) (by omega) (by omega)
      cases e0
      rw [Int.toNat_natCast] at hc0
      have hpp := Lib.hid (HP.out wr (rd l (i : Int)) HB.out)
      have hle := HL.out
      clear hC
      go_wp2_with (go_at_fn g; refine (hpp.out).mono ?_; rintro e w' ⟨rfl, hb⟩)
      · have hpx : p (rd l (i : Int)) = true := by assumption
        have hpi : p l[i] = true := by rwa [rd_nat l i hi] at hpx
        go_ret
        exact ⟨by rw [idxP_hit p l i hi (fun j hj h => HN.out j hj h) hpi]; rfl, HB.out.trans (hb.mono HB.out.size)⟩
      · have hpx : p (rd l (i : Int)) = false := by assumption
        have hpi : p l[i] = false := by rwa [rd_nat l i hi] at hpx
        go_roundg k1
        case rel => exact ⟨i + 1, by go_num, ⟨by have := HI.out; omega⟩, ⟨fun j hj h => by
          by_cases e : j = i
          · subst e; exact hpi
          · exact HN.out j hj (by omega)⟩, ⟨HB.out.trans (hb.mono HB.out.size)⟩⟩
        case measure => omega

set_option maxHeartbeats 400000 in
set_option maxRecDepth 100000 in
theorem ContainsFunc53 (g : Nat) (lb : Array Value) (p : Int → Bool) (A : Option Addr) (c : Nat) (l : List (Int)) (w : World)
    (eg : ∀ args w, (callFunc g args).run Try.prog w = .ok (.enter g args) w)
    (hr : Kd.C (Kd.int .i64) w A l.length l) (hp : PredB g lb (Value.int .i64) p w) :
    Calls Try.prog 53 #[.slice A l.length c, .func (.func g) #[] lb] w fun e w' => e = .returned (.bool (l.any p)) ∧ Below w.heap.size w w' := by
  have H := Lib.hid (IndexFunc74 g lb p A c l w eg hr hp)
  have HQ := Lib.hid (idxP_any p l)
  clear hr hp eg
  go_enter Try.func53, Try.ntmps53
  go_wp2_with (go_at_call 74; refine (H.out).mono ?_; rintro e w' ⟨rfl, hb⟩)
  go_ret
  exact ⟨by rw [← HQ.out]; rfl, hb⟩

set_option maxHeartbeats 1000000 in
set_option maxRecDepth 100000 in
theorem IndexFunc71 (g : Nat) (lb : Array Value) (p : S58 → Bool) (A : Option Addr) (c : Nat) (l : List (S58)) (w : World)
    (eg : ∀ args w, (callFunc g args).run Try.prog w = .ok (.enter g args) w)
    (hr : Kd.C k58 w A l.length l) (hp : PredB g lb enc58 p w) :
    Calls Try.prog 71 #[.slice A l.length c, .func (.func g) #[] lb] w fun e w' => e = .returned (.int .i64 (idxP p l)) ∧ Below w.heap.size w w' := by
  have HR0 := Aside0.mk hr
  have HP := Aside0.mk hp
  have HL := Aside0.mk hr.2.1
  clear hr hp
  go_enter Try.func71, Try.ntmps71
  go_wp2
  go_loopg [8] l.length (fun kq v8 w' => ∃ i : Nat, v8 = .int .i64 i ∧ Aside0 (i + kq = l.length) ∧ Aside0 (∀ j (hj : j < l.length), j < i → p l[j] = false) ∧ Aside0 (Below w.heap.size w w'))
  case atStart => exact ⟨0, rfl, ⟨by omega⟩, ⟨fun j hj h => absurd h (by omega)⟩, ⟨Below.refl _ _⟩⟩
  case round =>
    obtain ⟨i, rfl, HI, HN, HB⟩ := hrel
    cases gk with
    | zero =>
      have hi : i = l.length := by have := HI.out; omega
      have hlt : decide (i < l.length) = false := by rw [hi]; simp
      go_wp2
      go_ret
      refine ⟨?_, HB.out⟩
      rw [idxP_miss p l (fun j hj => HN.out j hj (by omega))]
      rfl
    | succ k1 =>
      have hi : i < l.length := by have := HI.out; omega
      have hlt : decide (i < l.length) = true := by simp [hi]
      have hC := Kd.C_below HR0.out HB.out
      obtain ⟨ad, e0, hc0, hc1, hc2, hc3⟩ := at_T58 hC (i : Int) (by omega) (by omega)
      cases e0
      rw [Int.toNat_natCast] at hc0
      rw [Int.toNat_natCast] at hc1
      rw [Int.toNat_natCast] at hc2
      rw [Int.toNat_natCast] at hc3
      have hpp := Lib.hid (HP.out wr (rd_T58 l (i : Int)) HB.out)
      have hle := HL.out
      clear hC
      go_wp2_with (go_at_fn g; refine (hpp.out).mono ?_; rintro e w' ⟨rfl, hb⟩)
      · have hpx : p (rd_T58 l (i : Int)) = true := by assumption
        have hpi : p l[i] = true := by rwa [rd_T58_nat l i hi] at hpx
        go_ret
        exact ⟨by rw [idxP_hit p l i hi (fun j hj h => HN.out j hj h) hpi]; rfl, HB.out.trans (hb.mono HB.out.size)⟩
      · have hpx : p (rd_T58 l (i : Int)) = false := by assumption
        have hpi : p l[i] = false := by rwa [rd_T58_nat l i hi] at hpx
        go_roundg k1
        case rel => exact ⟨i + 1, by go_num, ⟨by have := HI.out; omega⟩, ⟨fun j hj h => by
          by_cases e : j = i
          · subst e; exact hpi
          · exact HN.out j hj (by omega)⟩, ⟨HB.out.trans (hb.mono HB.out.size)⟩⟩
        case measure => omega

set_option maxHeartbeats 400000 in
set_option maxRecDepth 100000 in
theorem ContainsFunc50 (g : Nat) (lb : Array Value) (p : S58 → Bool) (A : Option Addr) (c : Nat) (l : List (S58)) (w : World)
    (eg : ∀ args w, (callFunc g args).run Try.prog w = .ok (.enter g args) w)
    (hr : Kd.C k58 w A l.length l) (hp : PredB g lb enc58 p w) :
    Calls Try.prog 50 #[.slice A l.length c, .func (.func g) #[] lb] w fun e w' => e = .returned (.bool (l.any p)) ∧ Below w.heap.size w w' := by
  have H := Lib.hid (IndexFunc71 g lb p A c l w eg hr hp)
  have HQ := Lib.hid (idxP_any p l)
  clear hr hp eg
  go_enter Try.func50, Try.ntmps50
  go_wp2_with (go_at_call 71; refine (H.out).mono ?_; rintro e w' ⟨rfl, hb⟩)
  go_ret
  exact ⟨by rw [← HQ.out]; rfl, hb⟩
end Go.Proofs.Ytfhmepdbbhcncaa.P
