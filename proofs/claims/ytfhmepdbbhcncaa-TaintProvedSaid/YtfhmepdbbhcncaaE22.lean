import Derived.Test.YtfhmepdbbhcncaaE21
namespace Go.Proofs.Ytfhmepdbbhcncaa.P
open Go.RowKit Go.Shelf Go.Proofs.YtfhmepdbbhcncaaW.PrintWords Go.Proofs.YtfhmepdbbhcncaaW.PrintLast Go.Proofs.YtfhmepdbbhcncaaW.PrintMore Go.Proofs.YtfhmepdbbhcncaaM Go.Proofs.YtfhmepdbbhcncaaR
set_option linter.unusedVariables false
set_option linter.unusedSimpArgs false

def risesB (len : Nat) : List Int → Int → Bool
  | [], _ => true
  | i :: is, last => if i ≤ last ∨ (len : Int) ≤ i then false else risesB len is i
theorem risesB_mem (len : Nat) : ∀ (is : List Int) (last : Int), risesB len is last = true → -1 ≤ last → ∀ i ∈ is, 0 ≤ i ∧ i < (len : Int)
  | [], _, _, _, i, hi => by cases hi
  | j :: js, last, h, h0, i, hi => by
    rw [risesB] at h
    split at h
    · cases h
    · rename_i hn
      rcases List.mem_cons.1 hi with rfl | h1
      · omega
      · exact risesB_mem len js j h (by omega) i h1
def minL (a b : List Int) : List Int := (List.range 20).map fun v => min (a.getD v 0) (b.getD v 0)
def upF (l : List S58) : List Int → List Int → Option (List Int)
  | [], up => some up
  | i :: is, up => match latF l 1000 (lat0 (rd_T58 l i)) with | some t => upF l is (minL up t) | none => none
def startsT (up : List Int) : Nat → List S26
  | 0 => []
  | k + 1 => if 0 ≤ up.getD k 0 then startsT up k ++ [⟨(k : Int), up.getD k 0⟩] else startsT up k
def causesF (n : Int) (l : List S58) (sp : List Int) : Option (List S26 × Int) :=
  if checkYard n l ≠ 0 then some ([], checkYard n l) else if sp.length = 0 ∨ 40 < sp.length then some ([], 6) else if risesB l.length sp (-1) = false then some ([], 3) else
    match upF l sp (List.replicate 20 1048576) with
    | some up => some (startsT up n.toNat, 0)
    | none => none

theorem startsT_len (up : List Int) : ∀ k, (startsT up k).length ≤ k
  | 0 => Nat.le_refl _
  | k + 1 => by
    have := startsT_len up k
    rw [startsT]; split <;> (try simp) <;> omega
theorem latStep_len (l : List S58) : ∀ (o : List Int), (latStep l o).length = o.length := by
  unfold latStep
  induction l with
  | nil => intro o; rfl
  | cons m l ih => intro o; rw [List.foldl_cons, ih, latMove_len]
theorem latF_len (l : List S58) : ∀ (K : Nat) (o r : List Int), latF l K o = some r → r.length = o.length
  | 0, _, _, h => by simp [latF] at h
  | K + 1, o, r, h => by
    rw [latF] at h
    split at h
    · injection h with h; rw [h]
    · rw [latF_len l K _ _ h, latStep_len]
/-- the first k of the lesser ones -/
def minK (a b : List Int) (k : Nat) : List Int := (List.range 20).map fun v => if v < k then min (a.getD v 0) (b.getD v 0) else a.getD v 0
theorem minK_len (a b : List Int) (k : Nat) : (minK a b k).length = 20 := by simp [minK]
theorem minK_get (a b : List Int) (k v : Nat) (hv : v < 20) : (minK a b k).getD v 0 = if v < k then min (a.getD v 0) (b.getD v 0) else a.getD v 0 := by
  simp [minK, List.getD, hv]
theorem minK_zero (a b : List Int) (h : a.length = 20) : minK a b 0 = a := by
  apply List.ext_getElem
  · simp [minK, h]
  · intro j h1 h2
    simp [minK, List.getD, h2]
theorem minK_succ (a b : List Int) (k : Nat) (hk : k < 20) : (minK a b k).set k (min (a.getD k 0) (b.getD k 0)) = minK a b (k + 1) := by
  apply List.ext_getElem
  · simp [minK]
  · intro j h1 h2
    have hj : j < 20 := by simpa [minK] using h2
    rw [List.getElem_set]
    by_cases e : k = j
    · subst e; simp [minK]
    · rw [if_neg e]
      simp only [minK, List.getElem_map, List.getElem_range]
      by_cases h3 : j < k
      · rw [if_pos h3, if_pos (by omega)]
      · rw [if_neg h3, if_neg (by omega)]
theorem minK_all (a b : List Int) : minK a b 20 = minL a b := by
  unfold minK minL
  apply List.map_congr_left
  intro v hv
  rw [if_pos (List.mem_range.1 hv)]

set_option maxRecDepth 100000 in
theorem index93 (t : List Int) (hl : t.length = 20) (j : Nat) (hj : j < 20) (W : World) : (Instr.index 93 (.agg (arr t)) (.int .i64 (j : Int))).run Try.prog W = .ok (.int .i64 (t.getD j 0)) W := by
  have hs : (Go.sizeOf 2).run Try.prog W = .ok 1 W := Try.sizeOf2 W
  have hp := part2 t j (by omega) W
  have hc : Try.prog.cellsOf 2 = 1 := by kernel_rfl
  rw [hc] at hp
  have hj2 : (j : Int) < 20 := by omega
  simp [Instr.index, asIntOf, Sem.run_bind, run_underlying Try.underlying93, hs, hj2, Result.andThen]
  rw [if_pos hj]
  simpa using hp

structure CauS (w W : World) (n : Int) (sl : Value) (bU : Nat) (up : List Int) : Prop where
  y : Blk W w.heap.size 24 #[.int .i64 n, sl]
  o : Blk W bU 93 (arr up)
  len : up.length = 20
  g : Below w.heap.size w W
  hb : w.heap.size < bU
section
variable {w W W' : World} {n : Int} {sl : Value} {bU : Nat} {up : List Int}
theorem CauS.kept (h : CauS w W n sl bU up) (hg : W.grownBy W' none) : CauS w W' n sl bU up :=
  ⟨h.y.kept hg (by simp), h.o.kept hg (by simp), h.len, below_grown h.g hg (fun r e => by cases e), h.hb⟩
theorem CauS.set (h : CauS w W n sl bU up) (v : Nat) (hv : v < 20) (t : Int) : CauS w (W.setCell ⟨bU, v, none⟩ (.int .i64 t)) n sl bU (up.set v t) := by
  have hg := grown_set W bU v (.int .i64 t)
  have hl := h.len
  have hb := h.hb
  refine ⟨h.y.kept hg (by simp; omega), ?_, by simpa using hl, below_grown h.g hg (fun r e => by cases e; omega), hb⟩
  have := h.o.set v (.int .i64 t)
  have e : (arr up).setIfInBounds v (.int .i64 t) = arr (up.set v t) := by
    simp [arr, List.map_set]
  rw [e] at this
  exact this
theorem CauS.c (h : CauS w W n sl bU up) (v : Nat) (hv : v < 20) : W.cell? ⟨bU, v, none⟩ = some (.int .i64 (up.getD v 0)) := by
  have hl := h.len
  rw [h.o.cell]
  simp [arr, List.getD, show v < up.length by omega]
theorem CauS.fz (h : CauS w W n sl bU up) (v : Nat) : W.frozen? ⟨bU, v, none⟩ = false := h.o.fz v
end

set_option maxHeartbeats 4000000 in
set_option maxRecDepth 100000 in
theorem causes_calls (n : Int) (A : Option Addr) (c : Nat) (l : List S58) (As : Option Addr) (cs : Nat) (sp : List Int) (r1 : List S26) (r2 : Int) (w : World) (hr : Kd.C k58 w A l.length l) (hs : Kd.C (Kd.int .i64) w As sp.length sp) (h : causesF n l sp = some (r1, r2)) :
    Calls Try.prog 34 #[.agg #[.int .i64 n, .slice A l.length c], .slice As sp.length cs] w fun e w' => ∃ v0, e = .returned (.tuple #[v0, .int .i64 r2]) ∧ Kd.R k26 26 w' w.heap.size (fun _ => True) v0 r1 ∧ Below w.heap.size w w' := by
  have HR := Lib.hid hr
  have HSP := Lib.hid hs
  have hlm := hr.2.1
  have hsm := hs.2.1
  have hbx : Below w.heap.size w (w.alloc (.cells #[.int .i64 n, .slice A l.length c] 24)) := (Below.refl _ _).alloc (Nat.le_refl _) _
  have HCY := Lib.hid (checkYard_calls n A c l _ (Kd.C_below hr hbx))
  have HBX := Lib.hid hbx
  have HY0 := Lib.hid (Blk.new w #[.int .i64 n, .slice A l.length c] 24)
  have hsz : (w.alloc (.cells #[.int .i64 n, .slice A l.length c] 24)).heap.size = w.heap.size + 1 := by simp
  have HSZ := Lib.hid hsz
  unfold causesF at h
  have HF := Lib.hid h
  clear hr hs hbx h hsz
  obtain ⟨e0, he0⟩ : ∃ e0, checkYard n l = e0 := ⟨_, rfl⟩
  rw [he0] at HCY HF
  by_cases h0 : e0 = 0
  · have hq0 : (e0 != 0) = false := by simp [h0]
    have hf := HF.out
    rw [if_neg (by simp [h0])] at hf
    have HYD := Lib.hid (yardOK (he0.trans h0))
    clear h0 HF he0
    by_cases hl0 : sp.length = 0
    · have hf := hf
      rw [if_pos (.inl hl0)] at hf
      simp only [Option.some.injEq, Prod.mk.injEq] at hf
      obtain ⟨rfl, rfl⟩ := hf
      have hd : ((sp.length : Int) == 0) = true := by simp [hl0]
      have hd2 : (sp.length == 0) = true := by simp [hl0]
      clear hl0
      go_enter Try.func34, Try.ntmps34
      go_wp2_with (go_at_call 16; refine (HCY.out).mono ?_; rintro e w' ⟨rfl, hb1⟩; have HB1 := Lib.hid hb1; clear hb1)
      go_ret2
      exact ⟨.slice none 0 0, rfl, Kd.R_nil _ _ _ _ _, below_then HBX.out HBX.out.size HB1.out⟩
    · by_cases hl4 : 40 < sp.length
      · rw [if_pos (.inr hl4)] at hf
        simp only [Option.some.injEq, Prod.mk.injEq] at hf
        obtain ⟨rfl, rfl⟩ := hf
        have hd : ((sp.length : Int) == 0) = false := beq_eq_false_iff_ne.2 (by omega)
        have hd1 : decide ((sp.length : Int) > 40) = true := decide_eq_true (by omega)
        clear hl0
        go_enter Try.func34, Try.ntmps34
        go_wp2_with (go_at_call 16; refine (HCY.out).mono ?_; rintro e w' ⟨rfl, hb1⟩; have HB1 := Lib.hid hb1; clear hb1)
        go_ret2
        exact ⟨.slice none 0 0, rfl, Kd.R_nil _ _ _ _ _, below_then HBX.out HBX.out.size HB1.out⟩
      · rw [if_neg (by omega)] at hf
        have HF := Lib.hid hf
        have hd : ((sp.length : Int) == 0) = false := beq_eq_false_iff_ne.2 (by omega)
        have hd1 : decide ((sp.length : Int) > 40) = false := decide_eq_false (by omega)
        clear hf
        go_enter Try.func34, Try.ntmps34
        go_wp2_with (go_at_call 16; refine (HCY.out).mono ?_; rintro e w' ⟨rfl, hb1⟩; have HB1 := Lib.hid hb1; clear hb1)
        have HY1 := Lib.hid (HY0.out.below HB1.out HY0.out.lt)
        have HW1 := Lib.hid (below_then HBX.out HBX.out.size HB1.out)
        have hsz1 : w.heap.size + 1 ≤ w'.heap.size := by have := HB1.out.size; rw [HSZ.out] at this; exact this
        clear HB1 HY0 HBX HCY HSZ
        go_loopg [7, 34] sp.length (fun kq v7 v34 W => ∃ (k : Nat) (last : Int), W = w' ∧ v34 = .int .i64 k ∧ v7 = .int .i64 last ∧ Aside0 (k + kq = sp.length) ∧ Aside0 (risesB l.length (sp.drop k) last = risesB l.length sp (-1)))
        case atStart => exact ⟨0, -1, rfl, rfl, rfl, ⟨by omega⟩, ⟨rfl⟩⟩
        case round =>
          obtain ⟨k, last, rfl, rfl, rfl, HN, HRB⟩ := hrel
          cases gk with
          | succ k1 =>
            have hlt : k < sp.length := by have := HN.out; omega
            have hlt4 : decide ((k : Int) < (sp.length : Int)) = true := decide_eq_true (by omega)
            have hlt5 : decide (k < sp.length) = true := decide_eq_true hlt
            have hT := Kd.C_below HSP.out HW1.out
            obtain ⟨adt, et, hct⟩ := Kd.at_int hT (k : Int) (by omega) (by omega)
            cases et
            rw [Int.toNat_natCast] at hct
            have hrd : rd sp (k : Int) = sp[k] := by rw [rd_nat sp k hlt]
            rw [hrd] at hct
            have hw := HRB.out
            rw [List.drop_eq_getElem_cons hlt, risesB] at hw
            generalize sp[k] = i at *
            have cy : wr.cell? ⟨w.heap.size, 1, none⟩ = some (.slice A l.length c) := HY1.out.cell 1
            clear hT hrd HRB
            by_cases hbad : i ≤ last ∨ (l.length : Int) ≤ i
            · rw [if_pos hbad] at hw
              have hf := HF.out
              rw [if_pos hw.symm] at hf
              simp only [Option.some.injEq, Prod.mk.injEq] at hf
              obtain ⟨rfl, rfl⟩ := hf
              by_cases hil : i ≤ last
              · have hq1 : decide (i ≤ last) = true := decide_eq_true hil
                clear hbad hw
                go_wp2_with fail
                go_ret2
                exact ⟨.slice none 0 0, rfl, Kd.R_nil _ _ _ _ _, HW1.out⟩
              · have hq1 : decide (i ≤ last) = false := decide_eq_false hil
                have hq2 : decide (i ≥ (l.length : Int)) = true := decide_eq_true (by omega)
                have hq3 : decide ((l.length : Int) ≤ i) = true := decide_eq_true (by omega)
                clear hbad hw
                go_wp2_with fail
                go_ret2
                exact ⟨.slice none 0 0, rfl, Kd.R_nil _ _ _ _ _, HW1.out⟩
            · rw [if_neg hbad] at hw
              have hq1 : decide (i ≤ last) = false := decide_eq_false (by omega)
              have hq2 : decide (i ≥ (l.length : Int)) = false := decide_eq_false (by omega)
              have hq3 : decide ((l.length : Int) ≤ i) = false := decide_eq_false (by omega)
              have HW2 := Lib.hid hw
              clear hbad hw
              go_wp2_with fail
              go_roundg k1
              case rel => exact ⟨k + 1, i, rfl, by go_num, rfl, ⟨by have := HN.out; omega⟩, ⟨HW2.out⟩⟩
              case measure => omega
          | zero =>
            have hk : k = sp.length := by have := HN.out; omega
            subst hk
            have hlt4 : decide ((sp.length : Int) < (sp.length : Int)) = false := decide_eq_false (by omega)
            have hlt5 : decide (sp.length < sp.length) = false := decide_eq_false (by omega)
            have hrb := HRB.out
            rw [List.drop_length, risesB] at hrb
            have hf := HF.out
            rw [if_neg (by rw [← hrb]; simp)] at hf
            have HMEM := Lib.hid (risesB_mem l.length sp (-1) hrb.symm (by omega))
            have HF2 := Lib.hid hf
            clear hf hrb HRB HF
            have hS0 := Lib.hid (show CauS w (wr.alloc (.cells (arr (List.replicate 20 0)) 93)) n (.slice A l.length c) wr.heap.size (List.replicate 20 0) from
              ⟨HY1.out.alloc _, Blk.new wr _ 93, by simp, HW1.out.alloc HW1.out.size _, by omega⟩)
            go_wp2_with fail
            have hwr : w.heap.size < wr.heap.size := by omega
            generalize wr.heap.size = bU at *
            go_loopg [50] 20 (fun kq v50 W => ∃ (k : Nat) (up : List Int), v50 = .int .i64 k ∧ Aside0 (k + kq = 20) ∧ Aside0 (CauS w W n (.slice A l.length c) bU up) ∧ Aside0 (∀ j, j < k → up.getD j 0 = 1048576))
            case atStart => exact ⟨0, List.replicate 20 0, rfl, ⟨by omega⟩, ⟨hS0.out⟩, ⟨fun j hj => absurd hj (by omega)⟩⟩
            case round =>
              obtain ⟨k, up, rfl, HN3, HS, HC⟩ := hrel
              cases gk with
              | succ k1 =>
                have hk : (k : Int) < 20 := by have := HN3.out; omega
                have hc := HS.out.c k (by omega)
                have hf := HS.out.fz k
                go_wp2
                go_roundg k1
                case rel => exact ⟨k + 1, _, by go_num, ⟨by have := HN3.out; omega⟩, ⟨HS.out.set k (by omega) 1048576⟩, ⟨fun j hj => by
                  have hl2 := HS.out.len
                  by_cases e : j = k
                  · subst e; rw [List.getD_eq_getElem?_getD, List.getElem?_set_self (by omega)]; rfl
                  · have := HC.out j (by omega); simpa [List.getElem?_set, Ne.symm e] using this⟩⟩
                case measure => omega
              | zero =>
                have hk : k = 20 := by have := HN3.out; omega
                have HCM : up = List.replicate 20 1048576 := by
                  have hl2 := HS.out.len
                  apply List.ext_getElem
                  · simp [hl2]
                  · intro j h1 h2
                    have := HC.out j (by omega)
                    rw [List.getElem_replicate]
                    simpa [h1] using this
                subst HCM hk
                clear HC hS0
                have HS1 := HS
                go_wp2_with fail
                go_loopg [58] sp.length (fun kq v58 W => ∃ (k : Nat) (up : List Int), v58 = .int .i64 k ∧ Aside0 (k + kq = sp.length) ∧ Aside0 (CauS w W n (.slice A l.length c) bU up) ∧ Aside0 (upF l (sp.drop k) up = upF l sp (List.replicate 20 1048576)))
                case atStart => exact ⟨0, List.replicate 20 1048576, rfl, ⟨by omega⟩, ⟨HS1.out⟩, ⟨rfl⟩⟩
                case round =>
                  clear HS1 HS
                  obtain ⟨k, up, rfl, HN4, HS, HU⟩ := hrel
                  cases gk with
                  | succ k1 =>
                    have hlt : k < sp.length := by have := HN4.out; omega
                    have hlt4 : decide ((k : Int) < (sp.length : Int)) = true := decide_eq_true (by omega)
                    have hlt5 : decide (k < sp.length) = true := decide_eq_true hlt
                    have hT := Kd.C_below HSP.out HS.out.g
                    obtain ⟨adt, et, hct⟩ := Kd.at_int hT (k : Int) (by omega) (by omega)
                    cases et
                    rw [Int.toNat_natCast] at hct
                    have hrd : rd sp (k : Int) = sp[k] := by rw [rd_nat sp k hlt]
                    rw [hrd] at hct
                    have hi := HMEM.out sp[k] (List.getElem_mem hlt)
                    have hu := HU.out
                    rw [List.drop_eq_getElem_cons hlt, upF] at hu
                    generalize sp[k] = i at *
                    have hi1 := hi.1
                    have hi2 := hi.2
                    have hi3 : i.toNat < l.length := by omega
                    have hC := Kd.C_below HR.out HS.out.g
                    obtain ⟨ad, e0, hc0, hc1, hc2, hc3⟩ := at_T58 hC i hi.1 hi.2
                    cases e0
                    have hmem : rd_T58 l i ∈ l := by
                      have : i = ((i.toNat : Nat) : Int) := by omega
                      rw [this, rd_T58_nat l i.toNat hi3]; exact List.getElem_mem hi3
                    generalize rd_T58 l i = m at *
                    cases hlat : latF l 1000 (lat0 m) with
                    | none =>
                      rw [hlat] at hu
                      have := HF2.out
                      rw [← hu] at this
                      cases this
                    | some t =>
                      rw [hlat] at hu
                      have HU2 := Lib.hid hu
                      have HLC := Lib.hid (fun (d : Nat) (os : Array Obj) => latest_calls n (some ad) c l m t 1000 (Go.«Sort».grow (redrawn wr d) os) (Kd.C_below hC (below_regrown wr d os)) HYD.out hmem hlat)
                      have gy0 := cell_regrown (show wr.cell? ⟨w.heap.size, 0, none⟩ = some (.int .i64 n) from HS.out.y.cell 0)
                      have gy1 := cell_regrown (show wr.cell? ⟨w.heap.size, 1, none⟩ = some (.slice (some ad) l.length c) from HS.out.y.cell 1)
                      have gm0 := cell_regrown hc0
                      have gm1 := cell_regrown hc1
                      have gm2 := cell_regrown hc2
                      have gm3 := cell_regrown hc3
                      have e58 : enc58 m = .agg #[.int .i64 m.f0, .int .i64 m.f1, .int .i64 m.f2.f0, .int .i64 m.f2.f1] := rfl
                      rw [e58] at HLC
                      clear hu hc1 hc2 hc3 hC hmem e58 HU hrd hT
                      go_upto_region 23 with (fail)
                      clear hct hc0
                      refine wp_region_quiet_below (by kernel_rfl) (by kernel_rfl) ?_
                      repeat (go_big_quiet_step ((go_at_call 68; exact Calls.regrown_of ((HLC.out _ _).mono (fun e w' h => ⟨h.1, h.2.2⟩)))))
                      refine wpQuiet_nil ?_
                      intro _ hw'
                      obtain ⟨⟨dq, osq⟩, hw''⟩ := hw'
                      subst hw''
                      have HS2 := Lib.hid (HS.out.kept (grown_of_below (below_regrown wr dq osq) none))
                      clear gy0 gy1 gm0 gm1 gm2 gm3 HLC HS
                      generalize Go.«Sort».grow (redrawn wr dq) osq = W2 at *
                      have htl : t.length = 20 := by rw [latF_len l 1000 _ _ hlat]; simp [lat0]
                      go_wp2_with fail
                      go_loopg [69] 20 (fun kq v69 W => ∃ (j : Nat), v69 = .int .i64 j ∧ Aside0 (j + kq = 20) ∧ Aside0 (CauS w W n (.slice (some ad) l.length c) bU (minK up t j)))
                      case atStart => exact ⟨0, rfl, ⟨by omega⟩, ⟨by rw [minK_zero _ _ HS2.out.len]; exact HS2.out⟩⟩
                      case round =>
                        clear HS2
                        obtain ⟨j, rfl, HN5, HS3⟩ := hrel
                        cases gk with
                        | succ k2 =>
                          have hj : (j : Int) < 20 := by have := HN5.out; omega
                          have hj2 : j < 20 := by omega
                          have hc := HS3.out.c j hj2
                          rw [minK_get _ _ _ _ hj2, if_neg (by omega)] at hc
                          have hf := HS3.out.fz j
                          have hix := index93 t htl j hj2
                          have hms := minK_succ up t j hj2
                          generalize up.getD j 0 = ua at hc hms
                          generalize t.getD j 0 = ta at hix hms
                          have HS4 := Lib.hid (HS3.out.set j hj2 (min ua ta))
                          rw [hms] at HS4
                          clear hms
                          go_wp2_with fail
                          go_roundg k2
                          case rel => exact ⟨j + 1, by go_num, ⟨by have := HN5.out; omega⟩, ⟨HS4.out⟩⟩
                          case measure => omega
                        | zero =>
                          have hj : j = 20 := by have := HN5.out; omega
                          subst hj
                          have hs := HS3.out
                          rw [minK_all] at hs
                          have HS4 := Lib.hid hs
                          clear hs HS3
                          go_wp2_with fail
                          go_roundg k1
                          case rel => exact ⟨k + 1, minL up t, by go_num, ⟨by have := HN4.out; omega⟩, ⟨HS4.out⟩, ⟨HU2.out⟩⟩
                          case measure => omega
                  | zero =>
                    have hk : k = sp.length := by have := HN4.out; omega
                    subst hk
                    have hlt4 : decide ((sp.length : Int) < (sp.length : Int)) = false := decide_eq_false (by omega)
                    have hlt5 : decide (sp.length < sp.length) = false := decide_eq_false (by omega)
                    have hu := HU.out
                    rw [List.drop_length, upF] at hu
                    have hf := HF2.out
                    rw [← hu] at hf
                    simp only [Option.some.injEq, Prod.mk.injEq] at hf
                    obtain ⟨hr1, rfl⟩ := hf
                    have HR1 := Lib.hid hr1
                    have hn1 := HYD.out.n1
                    have hn2 := HYD.out.n2
                    have hn0 : 0 ≤ n := by omega
                    have hcn : wr.cell? ⟨w.heap.size, 0, none⟩ = some (.int .i64 n) := HS.out.y.cell 0
                    clear hr1 hu HU
                    go_wp2_with fail
                    clear hcn
                    generalize hwz : wr = Wz at *
                    go_loopg [16, 86] n.toNat (fun kq v16 v86 W => ∃ (k : Nat), v86 = .int .i64 k ∧ Aside0 (k + kq = n.toNat) ∧ Aside0 (Kd.R k26 26 W Wz.heap.size (fun _ => True) v16 (startsT up k)) ∧ Aside0 (Below Wz.heap.size Wz W))
                    case atStart => exact ⟨0, rfl, ⟨by omega⟩, ⟨Kd.R_nil _ _ _ _ _⟩, ⟨Below.refl _ _⟩⟩
                    case round =>
                      obtain ⟨k, rfl, HN6, HL2, HB2⟩ := hrel
                      cases gk with
                      | succ k1 =>
                        have hlt : (k : Int) < n := by have := HN6.out; omega
                        have hk20 : k < 20 := by omega
                        have hlt2 : k < n.toNat := by omega
                        have hc : wr.cell? ⟨bU, k, none⟩ = some (.int .i64 (up.getD k 0)) := cell_in HB2.out (HS.out.c k hk20)
                        have HLEN := Aside0.mk (startsT_len up k)
                        obtain ⟨t, ht⟩ : ∃ t, up.getD k 0 = t := ⟨_, rfl⟩
                        rw [ht] at hc
                        have HT := Lib.hid ht
                        clear ht
                        have hl7 : decide ((k : Int) < n) = true := decide_eq_true hlt
                        by_cases hne : 0 ≤ t
                        · have hq : decide (t ≥ 0) = true := decide_eq_true hne
                          have HQ := Lib.hid hne
                          clear hne
                          go_wp2_with ((with_reducible refine gate_builtin (b := .append) (xs := #[.tmp 93, .tmp 97]) rfl ?_); at_builtin; refine Kd.R_append k26 (w0 := Wz) Wz.heap.size rfl (.tmp 93) (.tmp 97) 46 26 (.agg #[(.int .i64 0), (.int .i64 0)]) 16 rfl Try.underlying46 info26 rfl (by decide) (by omega) u16 (startsT up k) (⟨(k : Int), t⟩ : S26) [.int .i64 (k : Int), .int .i64 t] (fun _ => True) (fun _ => False) rfl rfl ?aP (fun _ hk => hk.elim) ?aF ?aO ?aB ?aS ?aL ?_; (case aP => exact k26_mkM _ _ _ (⟨(k : Int), t⟩ : S26)); (case aB => exact HB2.out); (case aF => exact (fun _ _ => trivial)); (case aO => exact HL2.out); (case aS => exact HB2.out.size); (case aL => have := HLEN.out; omega); intro v7 w24 ho hb hg hat; have HO7 := Aside0.mk ho; have HB7 := Aside0.mk hb; clear ho hb hg hat)
                          go_roundg k1
                          case rel => exact ⟨k + 1, by go_num, ⟨by have := HN6.out; omega⟩, ⟨by rw [startsT, HT.out, if_pos HQ.out]; exact HO7.out⟩, HB7⟩
                          case measure => omega
                        · have hq : decide (t ≥ 0) = false := decide_eq_false hne
                          have HQ := Lib.hid hne
                          clear hne
                          go_wp2_with fail
                          go_roundg k1
                          case rel => exact ⟨k + 1, by go_num, ⟨by have := HN6.out; omega⟩, ⟨by rw [startsT, HT.out, if_neg (by have := HQ.out; omega)]; exact HL2.out⟩, HB2⟩
                          case measure => omega
                      | zero =>
                        have hk : k = n.toNat := by have := HN6.out; omega
                        have hl7 : decide ((k : Int) < n) = false := decide_eq_false (by omega)
                        go_wp2_with fail
                        go_ret2
                        refine ⟨_, rfl, ?_, below_then HS.out.g HS.out.g.size HB2.out⟩
                        rw [← HR1.out, ← hk]
                        exact Kd.R_lower HL2.out HS.out.g.size
  · have hq0 : (e0 != 0) = true := by simp [h0]
    have hf := HF.out
    rw [if_pos h0] at hf
    simp only [Option.some.injEq, Prod.mk.injEq] at hf
    obtain ⟨rfl, rfl⟩ := hf
    clear h0 HF he0
    go_enter Try.func34, Try.ntmps34
    go_wp2_with (go_at_call 16; refine (HCY.out).mono ?_; rintro e w' ⟨rfl, hb1⟩; have HB1 := Lib.hid hb1; clear hb1)
    go_ret2
    exact ⟨.slice none 0 0, rfl, Kd.R_nil _ _ _ _ _, below_then HBX.out HBX.out.size HB1.out⟩
end Go.Proofs.Ytfhmepdbbhcncaa.P
