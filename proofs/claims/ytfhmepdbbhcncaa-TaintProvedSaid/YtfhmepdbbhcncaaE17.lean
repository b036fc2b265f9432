import Derived.Test.YtfhmepdbbhcncaaE16
namespace Go.Proofs.Ytfhmepdbbhcncaa.P
open Go.RowKit Go.Shelf Go.Proofs.YtfhmepdbbhcncaaW.PrintWords Go.Proofs.YtfhmepdbbhcncaaW.PrintLast Go.Proofs.YtfhmepdbbhcncaaW.PrintMore Go.Proofs.YtfhmepdbbhcncaaM Go.Proofs.YtfhmepdbbhcncaaR
set_option linter.unusedVariables false
set_option linter.unusedSimpArgs false

def PredL {α : Type} (g : Nat) (lb : Array Value) (enc : α → Value) (p : α → Bool) (l : List α) (w : World) : Prop :=
  ∀ (W : World) (x : α), x ∈ l → Below w.heap.size w W → Calls Try.prog g (#[enc x] ++ lb) W fun e w' => e = .returned (.bool (p x)) ∧ Below W.heap.size W w'

set_option maxHeartbeats 1000000 in
set_option maxRecDepth 100000 in
theorem IndexFunc71L (g : Nat) (lb : Array Value) (p : S58 → Bool) (A : Option Addr) (c : Nat) (l : List (S58)) (w : World)
    (eg : ∀ args w, (callFunc g args).run Try.prog w = .ok (.enter g args) w)
    (hr : Kd.C k58 w A l.length l) (hp : PredL g lb enc58 p l w) :
    Calls Try.prog 71 #[.slice A l.length c, .func (.func g) #[] lb] w fun e w' => e = .returned (.int .i64 (idxP p l)) ∧ Below w.heap.size w w' := by
  have HR0 := Aside0.mk hr
  have HP := Aside0.mk hp
  have HL := Aside0.mk hr.2.1
  clear hr hp
  go_enter Try.func71, Try.ntmps71
  go_wp2
  go_loopg [8] l.length (fun kq v8 w' => ∃ i : Nat, v8 = .int .i64 i ∧ Aside0 (i + kq = l.length) ∧ Aside0 (∀ j (hj : j < l.length), j < i → p l[j] = false) ∧ Aside0 (Below w.heap.size w w'))
  case atStart => exact ⟨0, rfl, ⟨by omega⟩, ⟨fun j hj h => absurd h (by omega)⟩, ⟨Below.refl _ _⟩⟩
  case round =>
    obtain ⟨i, rfl, HI, HN, HB⟩ := hrel
    cases gk with
    | zero =>
      have hi : i = l.length := by have := HI.out; omega
      have hlt : decide (i < l.length) = false := by rw [hi]; simp
      go_wp2
      go_ret
      refine ⟨?_, HB.out⟩
      rw [idxP_miss p l (fun j hj => HN.out j hj (by omega))]
      rfl
    | succ k1 =>
      have hi : i < l.length := by have := HI.out; omega
      have hlt : decide (i < l.length) = true := by simp [hi]
      have hC := Kd.C_below HR0.out HB.out
      obtain ⟨ad, e0, hc0, hc1, hc2, hc3⟩ := at_T58 hC (i : Int) (by omega) (by omega)
      cases e0
      rw [Int.toNat_natCast] at hc0
      rw [Int.toNat_natCast] at hc1
      rw [Int.toNat_natCast] at hc2
      rw [Int.toNat_natCast] at hc3
      have hpp := Lib.hid (HP.out wr (rd_T58 l (i : Int)) (by rw [rd_T58_nat l i hi]; exact List.getElem_mem hi) HB.out)
      have hle := HL.out
      clear hC
      go_wp2_with (go_at_fn g; refine (hpp.out).mono ?_; rintro e w' ⟨rfl, hb⟩)
      · have hpx : p (rd_T58 l (i : Int)) = true := by assumption
        have hpi : p l[i] = true := by rwa [rd_T58_nat l i hi] at hpx
        go_ret
        exact ⟨by rw [idxP_hit p l i hi (fun j hj h => HN.out j hj h) hpi]; rfl, HB.out.trans (hb.mono HB.out.size)⟩
      · have hpx : p (rd_T58 l (i : Int)) = false := by assumption
        have hpi : p l[i] = false := by rwa [rd_T58_nat l i hi] at hpx
        go_roundg k1
        case rel => exact ⟨i + 1, by go_num, ⟨by have := HI.out; omega⟩, ⟨fun j hj h => by
          by_cases e : j = i
          · subst e; exact hpi
          · exact HN.out j hj (by omega)⟩, ⟨HB.out.trans (hb.mono HB.out.size)⟩⟩
        case measure => omega

set_option maxHeartbeats 400000 in
set_option maxRecDepth 100000 in
theorem ContainsFunc50L (g : Nat) (lb : Array Value) (p : S58 → Bool) (A : Option Addr) (c : Nat) (l : List (S58)) (w : World)
    (eg : ∀ args w, (callFunc g args).run Try.prog w = .ok (.enter g args) w)
    (hr : Kd.C k58 w A l.length l) (hp : PredL g lb enc58 p l w) :
    Calls Try.prog 50 #[.slice A l.length c, .func (.func g) #[] lb] w fun e w' => e = .returned (.bool (l.any p)) ∧ Below w.heap.size w w' := by
  have H := Lib.hid (IndexFunc71L g lb p A c l w eg hr hp)
  have HQ := Lib.hid (idxP_any p l)
  clear hr hp eg
  go_enter Try.func50, Try.ntmps50
  go_wp2_with (go_at_call 71; refine (H.out).mono ?_; rintro e w' ⟨rfl, hb⟩)
  go_ret
  exact ⟨by rw [← HQ.out]; rfl, hb⟩

def badT (t : Int) : Bool := decide (t ≠ 1048576) && !withinB 0 100000 [t]
def lateM (gv : List Int) (m : S58) : Bool := (soonF (gv.getD m.f0.toNat 0) m).2 && decide ((soonF (gv.getD m.f0.toNat 0) m).1 < gv.getD m.f1.toNat 0)
def checkArrF (n : Int) (l : List S58) (sv st : Int) (gv : List Int) : Int :=
  if openE n l sv st [] ≠ 0 then openE n l sv st [] else if (gv.length : Int) ≠ n then 15 else if gv.any badT then 3 else if st < gv.getD sv.toNat 0 ∨ l.any (lateM gv) then 14 else 0

set_option maxHeartbeats 400000 in
set_option maxRecDepth 100000 in
theorem badT_lit (w : World) : PredB 59 #[] (Value.int .i64) badT w := by
  intro W x hb
  show Calls Try.prog 59 #[.int .i64 x] W _
  by_cases hx : x = 1048576
  · have hq : (x != 1048576) = false := by simp [hx]
    have F := Lib.hid (show badT x = false by simp [badT, hx])
    clear hx
    go_enter Try.func59, Try.ntmps59
    go_wp2
    go_ret
    exact ⟨by rw [F.out]; rfl, Below.refl _ _⟩
  · have hq : (x != 1048576) = true := by simp [hx]
    have F := Lib.hid (show badT x = !withinB 0 100000 [x] by simp [badT, hx])
    have HC := Lib.hid (within_one 0 100000 x W.heap.size 1 (W.alloc (.cells #[.int .i64 x] 2)) ((Blk.new W #[.int .i64 x] 2).cell 0))
    clear hx
    go_enter Try.func59, Try.ntmps59
    go_wp2_with (go_at_call 49; refine (HC.out).mono ?_; rintro e w1 ⟨rfl, hb1⟩; have HB1 := Lib.hid hb1; clear hb1)
    go_ret
    exact ⟨by rw [F.out]; rfl, (below_alloc (Below.refl W.heap.size W) _).trans (HB1.out.mono (by simp))⟩

set_option maxHeartbeats 1000000 in
set_option maxRecDepth 100000 in
theorem late_lit (w : World) (b : Nat) (Ag : Option Addr) (cg : Nat) (gv : List Int) (l : List S58) (h1 : b < w.heap.size) (c1 : w.cell? ⟨b, 0, none⟩ = some (.slice Ag gv.length cg)) (hg : Kd.C (Kd.int .i64) w Ag gv.length gv)
    (hl : ∀ m ∈ l, 0 ≤ m.f0 ∧ m.f0 < gv.length ∧ 0 ≤ m.f1 ∧ m.f1 < gv.length) : PredL 60 #[.pointer (some ⟨b, 0, none⟩)] enc58 (lateM gv) l w := by
  intro W m hm hb
  have d1 : W.cell? ⟨b, 0, none⟩ = some (.slice Ag gv.length cg) := (hb.cell (p := ⟨b, 0, none⟩) h1).trans c1
  have hC := Kd.C_below hg hb
  obtain ⟨h00, h01, h10, h11⟩ := hl m hm
  have hgm := hg.2.1
  clear c1 hg hb hl hm h1
  have e58 : enc58 m = .agg #[.int .i64 m.f0, .int .i64 m.f1, .int .i64 m.f2.f0, .int .i64 m.f2.f1] := rfl
  show Calls Try.prog 60 #[enc58 m, .pointer (some ⟨b, 0, none⟩)] W _
  rw [e58]
  have hb0 : Below W.heap.size W (W.alloc (.cells #[.int .i64 m.f0, .int .i64 m.f1, .int .i64 m.f2.f0, .int .i64 m.f2.f1] 58)) := below_alloc (Below.refl _ _) _
  have d2 : (W.alloc (.cells #[.int .i64 m.f0, .int .i64 m.f1, .int .i64 m.f2.f0, .int .i64 m.f2.f1] 58)).cell? ⟨b, 0, none⟩ = some (.slice Ag gv.length cg) := cell_in hb0 d1
  have hC2 := Kd.C_below hC hb0
  have hbk := Blk.new W #[.int .i64 m.f0, .int .i64 m.f1, .int .i64 m.f2.f0, .int .i64 m.f2.f1] 58
  obtain ⟨ad0, ee0, hx0⟩ := Kd.at_int hC2 m.f0 h00 h01
  obtain ⟨ad1, ee1, hx1⟩ := Kd.at_int hC2 m.f1 h10 h11
  obtain rfl : ad0 = ad1 := by rw [ee0] at ee1; injection ee1
  cases ee0
  have r0 : rd gv m.f0 = gv.getD m.f0.toNat 0 := rfl
  have r1 : rd gv m.f1 = gv.getD m.f1.toNat 0 := rfl
  have HLM := Lib.hid (show lateM gv m = (decide (rd gv m.f0 ≤ m.f2.f1) && decide (max (rd gv m.f0) m.f2.f0 < rd gv m.f1)) by rfl)
  clear r0 r1 ee1 hC hC2 d1
  generalize rd gv m.f0 = t0 at *
  generalize rd gv m.f1 = t1 at *
  have HCS := Lib.hid (fun (X : World) => soonest_calls t0 m X)
  rw [e58] at HCS
  have HB0 := Lib.hid hb0
  go_enter Try.func60, Try.ntmps60
  go_upto_region 1 with (fail)
  have hbm : W.heap.size < (W.alloc (.cells #[.int .i64 m.f0, .int .i64 m.f1, .int .i64 m.f2.f0, .int .i64 m.f2.f1] 58)).heap.size := by simp
  generalize W.alloc (.cells #[.int .i64 m.f0, .int .i64 m.f1, .int .i64 m.f2.f0, .int .i64 m.f2.f1] 58) = W1 at *
  clear hb0 e58
  have hi0 : m.f0.toNat < gv.length := by omega
  have hi1 : m.f1.toNat < gv.length := by omega
  have gd := cell_regrown d2
  have gx0 := cell_regrown hx0
  have gx1 := cell_regrown hx1
  have g0 := cell_regrown (show W1.cell? ⟨W.heap.size, 0, none⟩ = some (.int .i64 m.f0) from hbk.cell 0)
  have g1 := cell_regrown (show W1.cell? ⟨W.heap.size, 1, none⟩ = some (.int .i64 m.f1) from hbk.cell 1)
  have g2 := cell_regrown (show W1.cell? ⟨W.heap.size, 2, none⟩ = some (.int .i64 m.f2.f0) from hbk.cell 2)
  have g3 := cell_regrown (show W1.cell? ⟨W.heap.size, 3, none⟩ = some (.int .i64 m.f2.f1) from hbk.cell 3)
  cases hok : decide (t0 ≤ m.f2.f1) with
  | true =>
    rw [hok] at HCS HLM
    clear hok
    refine wp_region_quiet_below (by kernel_rfl) (by kernel_rfl) ?_
    repeat (go_big_quiet_step ((go_at_call 55; exact Calls.regrown_of (HCS.out _))))
    refine wpQuiet_nil ?_
    intro _ hw'
    obtain ⟨⟨dq, osq⟩, hw''⟩ := hw'
    subst hw''
    have q0 := gd dq osq
    have q1 := gx1 dq osq
    have q2 := g1 dq osq
    clear gd gx0 gx1 g0 g1 g2 g3
    go_wp2
    go_ret
    exact ⟨by rw [HLM.out]; rfl, below_then HB0.out HB0.out.size (below_regrown W1 dq osq)⟩
  | false =>
    rw [hok] at HCS HLM
    clear hok
    refine wp_region_quiet_below (by kernel_rfl) (by kernel_rfl) ?_
    repeat (go_big_quiet_step ((go_at_call 55; exact Calls.regrown_of (HCS.out _))))
    refine wpQuiet_nil ?_
    intro _ hw'
    obtain ⟨⟨dq, osq⟩, hw''⟩ := hw'
    subst hw''
    clear gd gx0 gx1 g0 g1 g2 g3
    go_wp2
    go_ret
    exact ⟨by rw [HLM.out]; rfl, below_then HB0.out HB0.out.size (below_regrown W1 dq osq)⟩

theorem lenC {w : World} {A : Option Addr} {xs : List Int} (h : Kd.C (Kd.int .i64) w A xs.length xs) : xs.length ≤ 9223372036854775807 := h.2.1

set_option maxHeartbeats 4000000 in
set_option maxRecDepth 100000 in
theorem checkArrivals_calls (n : Int) (A : Option Addr) (c : Nat) (l : List S58) (sv st : Int) (Ag : Option Addr) (cg : Nat) (gv : List Int) (w : World) (hr : Kd.C k58 w A l.length l) (hg : Kd.C (Kd.int .i64) w Ag gv.length gv) :
    Calls Try.prog 20 #[.agg #[.int .i64 n, .slice A l.length c], .agg #[.int .i64 sv, .int .i64 st], .slice Ag gv.length cg] w fun e w' => e = .returned (.int .i64 (checkArrF n l sv st gv)) ∧ Below w.heap.size w w' := by
  have hbx := boxes3 w (.cells #[.int .i64 n, .slice A l.length c] 24) (.cells #[.int .i64 sv, .int .i64 st] 26) (.cells #[.slice Ag gv.length cg] 28)
  have hrx := Kd.C_below hr hbx
  have HR := Lib.hid hr
  have HG := Lib.hid hg
  have hlm := hr.2.1
  have hgm := hg.2.1
  clear hr hg
  rcases Classical.em (openE n l sv st [] = 0) with hE | hE
  · have HO := Lib.hid (open_ok n A c l sv st none 0 [] (((w.alloc (.cells #[.int .i64 n, .slice A l.length c] 24)).alloc (.cells #[.int .i64 sv, .int .i64 st] 26)).alloc (.cells #[.slice Ag gv.length cg] 28)) hrx (C_nil _) hE)
    have HE := Lib.hid hE
    have HX := Lib.hid hbx
    have B0 : Blk (((w.alloc (.cells #[.int .i64 n, .slice A l.length c] 24)).alloc (.cells #[.int .i64 sv, .int .i64 st] 26)).alloc (.cells #[.slice Ag gv.length cg] 28)) w.heap.size 24 #[.int .i64 n, .slice A l.length c] := ((Blk.new w _ 24).alloc _).alloc _
    have B01 : Blk (((w.alloc (.cells #[.int .i64 n, .slice A l.length c] 24)).alloc (.cells #[.int .i64 sv, .int .i64 st] 26)).alloc (.cells #[.slice Ag gv.length cg] 28)) (w.heap.size + 1) 26 #[.int .i64 sv, .int .i64 st] := by
      have := (Blk.new (w.alloc (.cells #[.int .i64 n, .slice A l.length c] 24)) #[.int .i64 sv, .int .i64 st] 26).alloc (.cells #[.slice Ag gv.length cg] 28)
      simpa only [World.size_alloc] using this
    have B02 : Blk (((w.alloc (.cells #[.int .i64 n, .slice A l.length c] 24)).alloc (.cells #[.int .i64 sv, .int .i64 st] 26)).alloc (.cells #[.slice Ag gv.length cg] 28)) (w.heap.size + 1 + 1) 28 #[.slice Ag gv.length cg] := by
      have := Blk.new ((w.alloc (.cells #[.int .i64 n, .slice A l.length c] 24)).alloc (.cells #[.int .i64 sv, .int .i64 st] 26)) #[.slice Ag gv.length cg] 28
      simpa only [World.size_alloc] using this
    have hsz : (((w.alloc (.cells #[.int .i64 n, .slice A l.length c] 24)).alloc (.cells #[.int .i64 sv, .int .i64 st] 26)).alloc (.cells #[.slice Ag gv.length cg] 28)).heap.size = w.heap.size + 3 := by simp
    have HB0 := Lib.hid B0
    have HB01 := Lib.hid B01
    have HB02 := Lib.hid B02
    have HSZ := Lib.hid hsz
    clear hE hbx hrx B0 B01 B02 hsz
    go_enter Try.func20, Try.ntmps20
    go_upto_region 4 with (go_at_call 52; refine (HO.out).mono ?_; rintro e w' ⟨w1, hb1, rfl, rfl⟩; have HB1 := Lib.hid hb1; clear hb1)
    obtain ⟨hy, hsv, hsv2, hst, hst2, _⟩ := openOK HE.out
    have hsz1 : w.heap.size + 3 ≤ w1.heap.size := by have := HB1.out.size; rw [HSZ.out] at this; exact this
    have hb2 : Below (w.heap.size + 3) (((w.alloc (.cells #[.int .i64 n, .slice A l.length c] 24)).alloc (.cells #[.int .i64 sv, .int .i64 st] 26)).alloc (.cells #[.slice Ag gv.length cg] 28)) (w1.alloc (.cells (searchCells n (.slice A l.length c) sv st) 96)) := by rw [← HSZ.out]; exact HB1.out.alloc HB1.out.size _
    have B1 := HB0.out.below hb2 (by omega)
    have B11 := HB01.out.below hb2 (by omega)
    have B12 := HB02.out.below hb2 (by omega)
    have hB : Below w.heap.size w (w1.alloc (.cells (searchCells n (.slice A l.length c) sv st) 96)) := HX.out.trans (hb2.mono (by omega))
    have hlt1 : w1.heap.size < (w1.alloc (.cells (searchCells n (.slice A l.length c) sv st) 96)).heap.size := by simp
    generalize w1.alloc (.cells (searchCells n (.slice A l.length c) sv st) 96) = W1 at *
    have HF0 := Lib.hid (show checkArrF n l sv st gv = if (gv.length : Int) ≠ n then 15 else if gv.any badT then 3 else if st < gv.getD sv.toNat 0 ∨ l.any (lateM gv) then 14 else 0 by unfold checkArrF; rw [if_neg (by rw [HE.out]; simp)])
    have HYD := Lib.hid hy
    have HBB := Lib.hid hB
    have HB1 := Lib.hid B1
    have HB11 := Lib.hid B11
    have HB12 := Lib.hid B12
    have c0 : W1.cell? ⟨w.heap.size, 0, none⟩ = some (.int .i64 n) := B1.cell 0
    have c1 : W1.cell? ⟨w.heap.size, 1, none⟩ = some (.slice A l.length c) := B1.cell 1
    have c2 : W1.cell? ⟨w.heap.size + 1 + 1, 0, none⟩ = some (.slice Ag gv.length cg) := B12.cell 0
    clear B1 B11 B12 hB hb2 hy
    by_cases hln : (gv.length : Int) = n
    · have hq : ((gv.length : Int) != n) = false := by simp [hln]
      have HLN := Lib.hid hln
      have HF1 := Lib.hid (HF0.out.trans (if_neg (fun h => h hln)))
      have hCF := ContainsFunc58 59 #[] badT Ag cg gv W1 (enters_of Try.func59 (by kernel_rfl) rfl) (Kd.C_below HG.out HBB.out) (badT_lit W1)
      clear hln HF0
      cases hany : gv.any badT with
      | true =>
        rw [hany] at hCF
        have HCF := Lib.hid hCF
        have HF := Lib.hid (HF1.out.trans (if_pos hany))
        clear hany hCF
        go_wp2_with (go_at_call 58; refine (HCF.out).mono ?_; rintro e W2 ⟨rfl, hb4⟩; have HB5 := Lib.hid hb4; clear hb4)
        go_ret
        exact ⟨by rw [HF.out]; rfl, below_then HBB.out HBB.out.size HB5.out⟩
      | false =>
        rw [hany] at hCF
        have HCF := Lib.hid hCF
        have HF2 := Lib.hid (HF1.out.trans (if_neg (by rw [hany]; simp)))
        clear hany hCF HF1
        go_upto_region 9 with (go_at_call 58; refine (HCF.out).mono ?_; rintro e W2 ⟨rfl, hb4⟩; have HB5 := Lib.hid hb4; clear hb4)
        have hw2 := Lib.hid (below_then HBB.out HBB.out.size HB5.out)
        have hb24 := HB1.out.below HB5.out HB1.out.lt
        have hb26 := HB11.out.below HB5.out HB11.out.lt
        have hb28 := HB12.out.below HB5.out HB12.out.lt
        have hCg := Kd.C_below HG.out hw2.out
        have hln := HLN.out
        obtain ⟨ad, ee, hx⟩ := Kd.at_int hCg sv hsv (by omega)
        cases ee
        have hrd : rd gv sv = gv.getD sv.toNat 0 := rfl
        rw [hrd] at hx
        obtain ⟨tv, htv⟩ : ∃ tv, gv.getD sv.toNat 0 = tv := ⟨_, rfl⟩
        rw [htv] at hx
        have HTV := Lib.hid htv
        have hsl : sv.toNat < gv.length := by omega
        have HL := Lib.hid (fun (d : Nat) (os : Array Obj) => ContainsFunc50L 60 #[.pointer (some ⟨w.heap.size + 1 + 1, 0, none⟩)] (lateM gv) A c l (Go.«Sort».grow (redrawn W2 d) os) (enters_of Try.func60 (by kernel_rfl) rfl) (Kd.C_below (Kd.C_below HR.out hw2.out) (below_regrown W2 d os))
          (late_lit _ (w.heap.size + 1 + 1) _ cg gv l (Nat.lt_of_lt_of_le hb28.lt (below_regrown W2 d os).size) ((hb28.below (below_regrown W2 d os) hb28.lt).cell 0) (Kd.C_below hCg (below_regrown W2 d os)) (fun m hm => by have := HYD.out.mv m hm; omega)))
        have gy := cell_regrown (show W2.cell? ⟨w.heap.size, 1, none⟩ = some (.slice A l.length c) from hb24.cell 1)
        have gs0 := cell_regrown (show W2.cell? ⟨w.heap.size + 1, 0, none⟩ = some (.int .i64 sv) from hb26.cell 0)
        have gs1 := cell_regrown (show W2.cell? ⟨w.heap.size + 1, 1, none⟩ = some (.int .i64 st) from hb26.cell 1)
        have gl := cell_regrown (show W2.cell? ⟨w.heap.size + 1 + 1, 0, none⟩ = some (.slice (some ad) gv.length cg) from hb28.cell 0)
        have gx := cell_regrown hx
        clear hb24 hb26 hb28 hCg hrd htv hx c0 c1 c2 HCF HB1 HB11 HB12 hln
        by_cases hgt : st < tv
        · have hd : decide (tv > st) = true := decide_eq_true hgt
          have HF := Lib.hid (HF2.out.trans (if_pos (.inl (by rw [HTV.out]; exact hgt))))
          clear hgt
          refine wp_region_quiet_below (by kernel_rfl) (by kernel_rfl) ?_
          repeat (go_big_quiet_step (fail))
          refine wpQuiet_nil ?_
          intro _ hw'
          obtain ⟨⟨dq, osq⟩, hw''⟩ := hw'
          subst hw''
          clear gy gs0 gs1 gl gx
          go_wp2
          go_ret
          exact ⟨by rw [HF.out]; rfl, below_then hw2.out hw2.out.size (below_regrown W2 dq osq)⟩
        · have hd : decide (tv > st) = false := decide_eq_false hgt
          cases hany : l.any (lateM gv) with
          | true =>
            rw [hany] at HL
            have HF := Lib.hid (HF2.out.trans (if_pos (.inr hany)))
            clear hgt hany
            refine wp_region_quiet_below (by kernel_rfl) (by kernel_rfl) ?_
            repeat (go_big_quiet_step ((go_at_call 50; exact Calls.regrown_of (HL.out _ _))))
            refine wpQuiet_nil ?_
            intro _ hw'
            obtain ⟨⟨dq, osq⟩, hw''⟩ := hw'
            subst hw''
            clear gy gs0 gs1 gl gx
            go_wp2
            go_ret
            exact ⟨by rw [HF.out]; rfl, below_then hw2.out hw2.out.size (below_regrown W2 dq osq)⟩
          | false =>
            rw [hany] at HL
            have HF := Lib.hid (HF2.out.trans (if_neg (by rw [HTV.out, hany]; simp; omega)))
            clear hgt hany
            refine wp_region_quiet_below (by kernel_rfl) (by kernel_rfl) ?_
            repeat (go_big_quiet_step ((go_at_call 50; exact Calls.regrown_of (HL.out _ _))))
            refine wpQuiet_nil ?_
            intro _ hw'
            obtain ⟨⟨dq, osq⟩, hw''⟩ := hw'
            subst hw''
            clear gy gs0 gs1 gl gx
            go_wp2
            go_ret
            exact ⟨by rw [HF.out]; rfl, below_then hw2.out hw2.out.size (below_regrown W2 dq osq)⟩
    · have hq : ((gv.length : Int) != n) = true := by simp [hln]
      have HF := Lib.hid (HF0.out.trans (if_pos hln))
      clear hln
      go_wp2_with fail
      go_ret
      exact ⟨by rw [HF.out]; rfl, HBB.out⟩
  · have HO := Lib.hid (open_bad n A c l sv st none 0 [] (((w.alloc (.cells #[.int .i64 n, .slice A l.length c] 24)).alloc (.cells #[.int .i64 sv, .int .i64 st] 26)).alloc (.cells #[.slice Ag gv.length cg] 28)) hrx (C_nil _) hE)
    have HF := Lib.hid (show checkArrF n l sv st gv = openE n l sv st [] by unfold checkArrF; rw [if_pos hE])
    obtain ⟨ev, hev⟩ : ∃ ev, openE n l sv st [] = ev := ⟨_, rfl⟩
    rw [hev] at HO hE HF
    have hne : (ev != 0) = true := by simp [hE]
    clear hev hE hbx hrx
    go_enter Try.func20, Try.ntmps20
    go_wp2_with (go_at_call 52; refine (HO.out).mono ?_; rintro e w' ⟨rfl, hb1⟩; have HB1 := Lib.hid hb1; clear hb1)
    go_ret
    exact ⟨by rw [HF.out]; rfl, later3 HB1.out⟩
end Go.Proofs.Ytfhmepdbbhcncaa.P
