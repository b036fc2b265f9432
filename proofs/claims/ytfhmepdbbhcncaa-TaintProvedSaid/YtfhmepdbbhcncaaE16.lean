import Derived.Test.YtfhmepdbbhcncaaE15
namespace Go.Proofs.Ytfhmepdbbhcncaa.P
open Go.RowKit Go.Shelf Go.Proofs.YtfhmepdbbhcncaaW.PrintWords Go.Proofs.YtfhmepdbbhcncaaW.PrintLast Go.Proofs.YtfhmepdbbhcncaaW.PrintMore Go.Proofs.YtfhmepdbbhcncaaM Go.Proofs.YtfhmepdbbhcncaaR
set_option linter.unusedVariables false
set_option linter.unusedSimpArgs false

def badIx (len : Nat) (i : Int) : Bool := decide (i < 0) || decide ((len : Int) ≤ i)
def walkT (step : Int → S58 → Int × Bool) (l : List S58) (v : Int) : List Int → Int → Int → Int
  | [], a, _ => if a = v then 0 else 16
  | i :: is, a, t => if (rd_T58 l i).f0 ≠ a ∨ (step t (rd_T58 l i)).2 = false then 16 else walkT step l v is (rd_T58 l i).f1 (step t (rd_T58 l i)).1
def checkTrailF (n : Int) (l : List S58) (sv st v : Int) (tr : List Int) (sure : Bool) : Int :=
  if openE n l sv st [v] ≠ 0 then openE n l sv st [v] else if 40 < tr.length then 6 else if tr.any (badIx l.length) then 2 else walkT (if sure then sureF else soonF) l v tr sv st

set_option maxHeartbeats 400000 in
set_option maxRecDepth 100000 in
theorem ix_lit (w : World) (b : Nat) (n : Int) (A : Option Addr) (c : Nat) (len : Nat) (hlen : len ≤ 9223372036854775807) (h1 : b < w.heap.size) (c1 : w.cell? ⟨b, 1, none⟩ = some (.slice A len c)) :
    PredB 54 #[.pointer (some ⟨b, 0, none⟩)] (Value.int .i64) (badIx len) w := by
  intro W x hb
  have d1 : W.cell? ⟨b, 1, none⟩ = some (.slice A len c) := (hb.cell (p := ⟨b, 1, none⟩) h1).trans c1
  clear c1 hb h1
  show Calls Try.prog 54 #[.int .i64 x, .pointer (some ⟨b, 0, none⟩)] W _
  by_cases hx : x < 0
  · have hd : decide (x < 0) = true := decide_eq_true hx
    have F := Lib.hid (show badIx len x = true by simp [badIx, hx])
    clear hx
    go_enter Try.func54, Try.ntmps54
    go_wp2
    go_ret
    exact ⟨by rw [F.out]; rfl, Below.refl _ _⟩
  · have hd : decide (x < 0) = false := decide_eq_false hx
    have F := Lib.hid (show badIx len x = decide ((len : Int) ≤ x) by simp [badIx, hx])
    go_enter Try.func54, Try.ntmps54
    go_wp2
    go_ret
    exact ⟨by rw [F.out]; rfl, Below.refl _ _⟩

theorem Blk.sets2 {W : World} {b : Nat} {t : TypeId} {x y : Value} (h : Blk W b t #[x, y]) (u v : Int) : Blk ((W.setCell ⟨b, 0, none⟩ (.int .i64 u)).setCell ⟨b, 1, none⟩ (.int .i64 v)) b t #[.int .i64 u, .int .i64 v] := by
  have := (h.set 0 (.int .i64 u)).set 1 (.int .i64 v)
  simpa using this

set_option maxHeartbeats 4000000 in
set_option maxRecDepth 100000 in
theorem checkTrail_calls (n : Int) (A : Option Addr) (c : Nat) (l : List S58) (sv st v : Int) (At : Option Addr) (ct : Nat) (tr : List Int) (sure : Bool) (w : World) (hr : Kd.C k58 w A l.length l) (ht : Kd.C (Kd.int .i64) w At tr.length tr) :
    Calls Try.prog 18 #[.agg #[.int .i64 n, .slice A l.length c], .agg #[.int .i64 sv, .int .i64 st], .int .i64 v, .slice At tr.length ct, .bool sure] w fun e w' => e = .returned (.int .i64 (checkTrailF n l sv st v tr sure)) ∧ Below w.heap.size w w' := by
  have hbx := boxes3 w (.cells #[.int .i64 n, .slice A l.length c] 24) (.cells #[.int .i64 sv, .int .i64 st] 26) (.cells #[.int .i64 v] 3)
  have hrx := Kd.C_below hr hbx
  have hcv := C_one ((w.alloc (.cells #[.int .i64 n, .slice A l.length c] 24)).alloc (.cells #[.int .i64 sv, .int .i64 st] 26)) v
  simp only [World.size_alloc] at hcv
  have HR := Lib.hid hr
  have HTR := Lib.hid ht
  have hlm := hr.2.1
  have htm := ht.2.1
  clear hr ht
  rcases Classical.em (openE n l sv st [v] = 0) with hE | hE
  · have HO := Lib.hid (open_ok n A c l sv st (some ⟨w.heap.size + 1 + 1, 0, none⟩) 1 [v] (((w.alloc (.cells #[.int .i64 n, .slice A l.length c] 24)).alloc (.cells #[.int .i64 sv, .int .i64 st] 26)).alloc (.cells #[.int .i64 v] 3)) hrx hcv hE)
    have HE := Lib.hid hE
    have HX := Lib.hid hbx
    have B0 : Blk (((w.alloc (.cells #[.int .i64 n, .slice A l.length c] 24)).alloc (.cells #[.int .i64 sv, .int .i64 st] 26)).alloc (.cells #[.int .i64 v] 3)) w.heap.size 24 #[.int .i64 n, .slice A l.length c] := ((Blk.new w _ 24).alloc _).alloc _
    have B01 : Blk (((w.alloc (.cells #[.int .i64 n, .slice A l.length c] 24)).alloc (.cells #[.int .i64 sv, .int .i64 st] 26)).alloc (.cells #[.int .i64 v] 3)) (w.heap.size + 1) 26 #[.int .i64 sv, .int .i64 st] := by
      have := (Blk.new (w.alloc (.cells #[.int .i64 n, .slice A l.length c] 24)) #[.int .i64 sv, .int .i64 st] 26).alloc (.cells #[.int .i64 v] 3)
      simpa only [World.size_alloc] using this
    have hsz : (((w.alloc (.cells #[.int .i64 n, .slice A l.length c] 24)).alloc (.cells #[.int .i64 sv, .int .i64 st] 26)).alloc (.cells #[.int .i64 v] 3)).heap.size = w.heap.size + 3 := by simp
    have HB0 := Lib.hid B0
    have HB01 := Lib.hid B01
    have HSZ := Lib.hid hsz
    clear hE hbx hrx B0 B01 hsz hcv
    go_enter Try.func18, Try.ntmps18
    go_upto_region 4 with (go_at_call 52; refine (HO.out).mono ?_; rintro e w' ⟨w1, hb1, rfl, rfl⟩; have HB1 := Lib.hid hb1; clear hb1)
    have hsz1 : w.heap.size + 3 ≤ w1.heap.size := by have := HB1.out.size; rw [HSZ.out] at this; exact this
    have hb2 : Below (w.heap.size + 3) (((w.alloc (.cells #[.int .i64 n, .slice A l.length c] 24)).alloc (.cells #[.int .i64 sv, .int .i64 st] 26)).alloc (.cells #[.int .i64 v] 3)) (w1.alloc (.cells (searchCells n (.slice A l.length c) sv st) 96)) := by rw [← HSZ.out]; exact HB1.out.alloc HB1.out.size _
    have B1 := HB0.out.below hb2 (by omega)
    have B11 := HB01.out.below hb2 (by omega)
    have hB : Below w.heap.size w (w1.alloc (.cells (searchCells n (.slice A l.length c) sv st) 96)) := HX.out.trans (hb2.mono (by omega))
    have hlt1 : w1.heap.size < (w1.alloc (.cells (searchCells n (.slice A l.length c) sv st) 96)).heap.size := by simp
    generalize w1.alloc (.cells (searchCells n (.slice A l.length c) sv st) 96) = W1 at *
    have HF0 := Lib.hid (show checkTrailF n l sv st v tr sure = if 40 < tr.length then 6 else if tr.any (badIx l.length) then 2 else walkT (if sure then sureF else soonF) l v tr sv st by unfold checkTrailF; rw [if_neg (by rw [HE.out]; simp)])
    by_cases h40 : 40 < tr.length
    · have hd1 : decide ((tr.length : Int) > 40) = true := decide_eq_true (by omega)
      have hd2 : decide (tr.length > 40) = true := decide_eq_true h40
      have HF := Lib.hid (HF0.out.trans (if_pos h40))
      have HBB := Lib.hid hB
      clear B1 B11 hB hb2
      go_wp2_with fail
      go_ret
      exact ⟨by rw [HF.out]; rfl, HBB.out⟩
    · have hd1 : decide ((tr.length : Int) > 40) = false := decide_eq_false (by omega)
      have hd2 : decide (tr.length > 40) = false := decide_eq_false h40
      have hrt := Kd.C_below HTR.out hB
      have HCF := Lib.hid (ContainsFunc53 54 #[.pointer (some ⟨w.heap.size, 0, none⟩)] (badIx l.length) At ct tr W1 (enters_of Try.func54 (by kernel_rfl) rfl) hrt (ix_lit W1 w.heap.size n A c l.length hlm B1.lt (B1.cell 1)))
      have HBB := Lib.hid hB
      have HB1 := Lib.hid B1
      have HB11 := Lib.hid B11
      clear hrt B1 B11 hB hb2
      cases hany : tr.any (badIx l.length) with
      | true =>
        rw [hany] at HCF
        have HF := Lib.hid (HF0.out.trans ((if_neg h40).trans (if_pos hany)))
        clear hany
        go_wp2_with (go_at_call 53; refine (HCF.out).mono ?_; rintro e W2 ⟨rfl, hb4⟩; have HB5 := Lib.hid hb4; clear hb4)
        go_ret
        exact ⟨by rw [HF.out]; rfl, below_then HBB.out HBB.out.size HB5.out⟩
      | false =>
        rw [hany] at HCF
        have HF := Lib.hid (HF0.out.trans ((if_neg h40).trans (if_neg (by rw [hany]; simp))))
        have HIX := Lib.hid (show ∀ i ∈ tr, 0 ≤ i ∧ i < (l.length : Int) from fun i hi => by
          have := List.any_eq_false.1 hany i hi
          simp [badIx] at this
          omega)
        clear hany HF0
        go_upto_region 8 with (go_at_call 53; refine (HCF.out).mono ?_; rintro e W2 ⟨rfl, hb4⟩; have HB5 := Lib.hid hb4; clear hb4)
        have HY4 := Lib.hid (HB1.out.below HB5.out HB1.out.lt)
        have HS4 := Lib.hid (HB11.out.below HB5.out HB11.out.lt)
        have HB4 := Lib.hid (below_then HBB.out HBB.out.size HB5.out)
        clear HB1 HB11 HBB HB5 HCF
        cases sure with
        | true =>
          have HW0 := Lib.hid (show walkT sureF l v tr sv st = checkTrailF n l sv st v tr true by rw [HF.out]; rfl)
          go_wp2_with fail
          go_loopg [42] tr.length (fun kq v42 w' => ∃ (k : Nat) (a t : Int), v42 = .int .i64 k ∧ Aside0 (k + kq = tr.length) ∧ Aside0 (walkT sureF l v (tr.drop k) a t = checkTrailF n l sv st v tr true) ∧ Aside0 (Blk w' w.heap.size 24 #[.int .i64 n, .slice A l.length c]) ∧ Aside0 (Blk w' (w.heap.size + 1) 26 #[.int .i64 a, .int .i64 t]) ∧ Aside0 (Below w.heap.size w w'))
          case atStart => exact ⟨0, sv, st, rfl, ⟨by omega⟩, ⟨HW0.out⟩, ⟨HY4.out⟩, ⟨HS4.out⟩, ⟨HB4.out⟩⟩
          case round =>
            obtain ⟨k, a, t, rfl, HN, HW, HYB, HSB, HBW⟩ := hrel
            have cy : wr.cell? ⟨w.heap.size, 1, none⟩ = some (.slice A l.length c) := HYB.out.cell 1
            have cs0 : wr.cell? ⟨w.heap.size + 1, 0, none⟩ = some (.int .i64 a) := HSB.out.cell 0
            have cs1 : wr.cell? ⟨w.heap.size + 1, 1, none⟩ = some (.int .i64 t) := HSB.out.cell 1
            cases gk with
            | succ k1 =>
              have hlt : k < tr.length := by have := HN.out; omega
              have hl4 : decide ((k : Int) < (tr.length : Int)) = true := decide_eq_true (by omega)
              have hl5 : decide (k < tr.length) = true := decide_eq_true hlt
              have hT := Kd.C_below HTR.out HBW.out
              obtain ⟨adt, et, hct⟩ := Kd.at_int hT (k : Int) (by omega) (by omega)
              cases et
              rw [Int.toNat_natCast] at hct
              have hrd : rd tr (k : Int) = tr[k] := by rw [rd_nat tr k hlt]
              have hi := HIX.out tr[k] (List.getElem_mem hlt)
              have hw := HW.out
              rw [List.drop_eq_getElem_cons hlt, walkT] at hw
              rw [hrd] at hct
              generalize tr[k] = i at *
              have hC := Kd.C_below HR.out HBW.out
              obtain ⟨ad, e0, hc0, hc1, hc2, hc3⟩ := at_T58 hC i hi.1 hi.2
              cases e0
              have hi1 := hi.1
              have hi2 := hi.2
              have hi3 : i.toNat < l.length := by omega
              clear hC hT hrd hi HW
              generalize rd_T58 l i = m at *
              have HCS := Lib.hid (fun (X : World) => surest_calls t m X)
              have e58 : enc58 m = .agg #[.int .i64 m.f0, .int .i64 m.f1, .int .i64 m.f2.f0, .int .i64 m.f2.f1] := rfl
              rw [e58] at HCS
              have HWW := Lib.hid hw
              clear hw e58
              have hbk := Blk.new wr #[.int .i64 m.f0, .int .i64 m.f1, .int .i64 m.f2.f0, .int .i64 m.f2.f1] 58
              have hb1 : Below w.heap.size w (wr.alloc (.cells #[.int .i64 m.f0, .int .i64 m.f1, .int .i64 m.f2.f0, .int .i64 m.f2.f1] 58)) := HBW.out.alloc HBW.out.size _
              have hy1 := HYB.out.alloc (.cells #[.int .i64 m.f0, .int .i64 m.f1, .int .i64 m.f2.f0, .int .i64 m.f2.f1] 58)
              have hs1 := HSB.out.alloc (.cells #[.int .i64 m.f0, .int .i64 m.f1, .int .i64 m.f2.f0, .int .i64 m.f2.f1] 58)
              go_upto_region 15 with (fail)
              generalize wr.heap.size = bM at *
              generalize wr.alloc (.cells #[.int .i64 m.f0, .int .i64 m.f1, .int .i64 m.f2.f0, .int .i64 m.f2.f1] 58) = W3 at *
              clear cy cs0 cs1 hct hc0 hc1 hc2 hc3 HYB HSB HBW
              have cs1 : W3.cell? ⟨w.heap.size + 1, 1, none⟩ = some (.int .i64 t) := hs1.cell 1
              have g0 : W3.cell? ⟨bM, 0, none⟩ = some (.int .i64 m.f0) := hbk.cell 0
              have g1 : W3.cell? ⟨bM, 1, none⟩ = some (.int .i64 m.f1) := hbk.cell 1
              have g2 : W3.cell? ⟨bM, 2, none⟩ = some (.int .i64 m.f2.f0) := hbk.cell 2
              have g3 : W3.cell? ⟨bM, 3, none⟩ = some (.int .i64 m.f2.f1) := hbk.cell 3
              have HK := Lib.hid (And.intro hbk (And.intro hb1 (And.intro hy1 hs1)))
              clear hbk hb1 hy1 hs1
              go_upto_region 16 with (go_at_call 56; refine (HCS.out _).mono ?_; rintro e W4 ⟨rfl, hb4⟩; have HB5 := Lib.hid hb4; clear hb4)
              obtain ⟨hbk, hb1, hy1, hs1⟩ := HK.out
              have hbk := hbk.below HB5.out hbk.lt
              have hb1 := below_then hb1 hb1.size HB5.out
              have hy1 := hy1.below HB5.out hy1.lt
              have hs1 := hs1.below HB5.out hs1.lt
              clear cs1 g0 g1 g2 g3 HK
              have cs0 : W4.cell? ⟨w.heap.size + 1, 0, none⟩ = some (.int .i64 a) := hs1.cell 0
              have cf0 := hs1.fz 0
              have cf1 := hs1.fz 1
              have cs1 : W4.cell? ⟨w.heap.size + 1, 1, none⟩ = some (.int .i64 t) := hs1.cell 1
              have g0 : W4.cell? ⟨bM, 0, none⟩ = some (.int .i64 m.f0) := hbk.cell 0
              have g1 : W4.cell? ⟨bM, 1, none⟩ = some (.int .i64 m.f1) := hbk.cell 1
              have hset := hs1.sets2 m.f1 m.f2.f1
              have HK := Lib.hid (And.intro hb1 (And.intro hy1 hs1))
              clear hbk hb1 hy1
              by_cases hma : m.f0 = a
              · have hq1 : (m.f0 != a) = false := by simp [hma]
                by_cases hok : t ≤ m.f2.f0
                · have hq2 : decide (t ≤ m.f2.f0) = true := decide_eq_true hok
                  have HGO := Lib.hid (show walkT sureF l v (tr.drop (k + 1)) m.f1 (m.f2.f1) = checkTrailF n l sv st v tr true by
                    have := HWW.out
                    rw [if_neg (by simp [sureF, hma, hok])] at this
                    exact this)
                  clear hma
                  go_wp2_with fail
                  have hk3 := HK.out
                  go_roundg k1
                  case rel => exact ⟨k + 1, m.f1, m.f2.f1, by go_num, ⟨by have := HN.out; omega⟩, ⟨HGO.out⟩, ⟨(hk3.2.1.kept (grown_set W4 (w.heap.size + 1) 0 _) (by simp)).kept (grown_set _ (w.heap.size + 1) 1 _) (by simp)⟩, ⟨hset⟩, ⟨below_grown (below_grown hk3.1 (grown_set W4 (w.heap.size + 1) 0 _) (fun r e => by cases e; omega)) (grown_set _ (w.heap.size + 1) 1 _) (fun r e => by cases e; omega)⟩⟩
                  case measure => omega
                · have hq2 : decide (t ≤ m.f2.f0) = false := decide_eq_false hok
                  have HGO := Lib.hid (show 16 = checkTrailF n l sv st v tr true by
                    have := HWW.out
                    rw [if_pos (.inr (by simp [sureF]; omega))] at this
                    exact this)
                  clear hma
                  go_wp2_with fail
                  go_ret
                  exact ⟨by rw [← HGO.out]; rfl, HK.out.1⟩
              · have hq1 : (m.f0 != a) = true := by simp [hma]
                have HGO := Lib.hid (show 16 = checkTrailF n l sv st v tr true by
                  have := HWW.out
                  rw [if_pos (.inl hma)] at this
                  exact this)
                clear hma
                go_wp2_with fail
                go_ret
                exact ⟨by rw [← HGO.out]; rfl, HK.out.1⟩
            | zero =>
              have hk : k = tr.length := by have := HN.out; omega
              have hl4 : decide ((k : Int) < (tr.length : Int)) = false := decide_eq_false (by omega)
              have hl5 : decide (k < tr.length) = false := decide_eq_false (by omega)
              have hw := HW.out
              rw [hk, List.drop_length, walkT] at hw
              have HWW := Lib.hid hw
              clear hw HW
              by_cases hav : a = v
              · have hq1 : (a != v) = false := by simp [hav]
                have HAV := Lib.hid hav
                clear hav
                go_wp2_with fail
                go_ret
                exact ⟨by rw [← HWW.out, if_pos HAV.out]; rfl, HBW.out⟩
              · have hq1 : (a != v) = true := by simp [hav]
                have HAV := Lib.hid hav
                clear hav
                go_wp2_with fail
                go_ret
                exact ⟨by rw [← HWW.out, if_neg HAV.out]; rfl, HBW.out⟩
        | false =>
          have HW0 := Lib.hid (show walkT soonF l v tr sv st = checkTrailF n l sv st v tr false by rw [HF.out]; rfl)
          go_wp2_with fail
          go_loopg [42] tr.length (fun kq v42 w' => ∃ (k : Nat) (a t : Int), v42 = .int .i64 k ∧ Aside0 (k + kq = tr.length) ∧ Aside0 (walkT soonF l v (tr.drop k) a t = checkTrailF n l sv st v tr false) ∧ Aside0 (Blk w' w.heap.size 24 #[.int .i64 n, .slice A l.length c]) ∧ Aside0 (Blk w' (w.heap.size + 1) 26 #[.int .i64 a, .int .i64 t]) ∧ Aside0 (Below w.heap.size w w'))
          case atStart => exact ⟨0, sv, st, rfl, ⟨by omega⟩, ⟨HW0.out⟩, ⟨HY4.out⟩, ⟨HS4.out⟩, ⟨HB4.out⟩⟩
          case round =>
            obtain ⟨k, a, t, rfl, HN, HW, HYB, HSB, HBW⟩ := hrel
            have cy : wr.cell? ⟨w.heap.size, 1, none⟩ = some (.slice A l.length c) := HYB.out.cell 1
            have cs0 : wr.cell? ⟨w.heap.size + 1, 0, none⟩ = some (.int .i64 a) := HSB.out.cell 0
            have cs1 : wr.cell? ⟨w.heap.size + 1, 1, none⟩ = some (.int .i64 t) := HSB.out.cell 1
            cases gk with
            | succ k1 =>
              have hlt : k < tr.length := by have := HN.out; omega
              have hl4 : decide ((k : Int) < (tr.length : Int)) = true := decide_eq_true (by omega)
              have hl5 : decide (k < tr.length) = true := decide_eq_true hlt
              have hT := Kd.C_below HTR.out HBW.out
              obtain ⟨adt, et, hct⟩ := Kd.at_int hT (k : Int) (by omega) (by omega)
              cases et
              rw [Int.toNat_natCast] at hct
              have hrd : rd tr (k : Int) = tr[k] := by rw [rd_nat tr k hlt]
              have hi := HIX.out tr[k] (List.getElem_mem hlt)
              have hw := HW.out
              rw [List.drop_eq_getElem_cons hlt, walkT] at hw
              rw [hrd] at hct
              generalize tr[k] = i at *
              have hC := Kd.C_below HR.out HBW.out
              obtain ⟨ad, e0, hc0, hc1, hc2, hc3⟩ := at_T58 hC i hi.1 hi.2
              cases e0
              have hi1 := hi.1
              have hi2 := hi.2
              have hi3 : i.toNat < l.length := by omega
              clear hC hT hrd hi HW
              generalize rd_T58 l i = m at *
              have HCS := Lib.hid (fun (X : World) => soonest_calls t m X)
              have e58 : enc58 m = .agg #[.int .i64 m.f0, .int .i64 m.f1, .int .i64 m.f2.f0, .int .i64 m.f2.f1] := rfl
              rw [e58] at HCS
              have HWW := Lib.hid hw
              clear hw e58
              have hbk := Blk.new wr #[.int .i64 m.f0, .int .i64 m.f1, .int .i64 m.f2.f0, .int .i64 m.f2.f1] 58
              have hb1 : Below w.heap.size w (wr.alloc (.cells #[.int .i64 m.f0, .int .i64 m.f1, .int .i64 m.f2.f0, .int .i64 m.f2.f1] 58)) := HBW.out.alloc HBW.out.size _
              have hy1 := HYB.out.alloc (.cells #[.int .i64 m.f0, .int .i64 m.f1, .int .i64 m.f2.f0, .int .i64 m.f2.f1] 58)
              have hs1 := HSB.out.alloc (.cells #[.int .i64 m.f0, .int .i64 m.f1, .int .i64 m.f2.f0, .int .i64 m.f2.f1] 58)
              go_upto_region 15 with (fail)
              generalize wr.heap.size = bM at *
              generalize wr.alloc (.cells #[.int .i64 m.f0, .int .i64 m.f1, .int .i64 m.f2.f0, .int .i64 m.f2.f1] 58) = W3 at *
              clear cy cs0 cs1 hct hc0 hc1 hc2 hc3 HYB HSB HBW
              have cs1 : W3.cell? ⟨w.heap.size + 1, 1, none⟩ = some (.int .i64 t) := hs1.cell 1
              have g0 : W3.cell? ⟨bM, 0, none⟩ = some (.int .i64 m.f0) := hbk.cell 0
              have g1 : W3.cell? ⟨bM, 1, none⟩ = some (.int .i64 m.f1) := hbk.cell 1
              have g2 : W3.cell? ⟨bM, 2, none⟩ = some (.int .i64 m.f2.f0) := hbk.cell 2
              have g3 : W3.cell? ⟨bM, 3, none⟩ = some (.int .i64 m.f2.f1) := hbk.cell 3
              have HK := Lib.hid (And.intro hbk (And.intro hb1 (And.intro hy1 hs1)))
              clear hbk hb1 hy1 hs1
              go_upto_region 16 with (go_at_call 55; refine (HCS.out _).mono ?_; rintro e W4 ⟨rfl, hb4⟩; have HB5 := Lib.hid hb4; clear hb4)
              obtain ⟨hbk, hb1, hy1, hs1⟩ := HK.out
              have hbk := hbk.below HB5.out hbk.lt
              have hb1 := below_then hb1 hb1.size HB5.out
              have hy1 := hy1.below HB5.out hy1.lt
              have hs1 := hs1.below HB5.out hs1.lt
              clear cs1 g0 g1 g2 g3 HK
              have cs0 : W4.cell? ⟨w.heap.size + 1, 0, none⟩ = some (.int .i64 a) := hs1.cell 0
              have cf0 := hs1.fz 0
              have cf1 := hs1.fz 1
              have cs1 : W4.cell? ⟨w.heap.size + 1, 1, none⟩ = some (.int .i64 t) := hs1.cell 1
              have g0 : W4.cell? ⟨bM, 0, none⟩ = some (.int .i64 m.f0) := hbk.cell 0
              have g1 : W4.cell? ⟨bM, 1, none⟩ = some (.int .i64 m.f1) := hbk.cell 1
              have hset := hs1.sets2 m.f1 (max t m.f2.f0)
              have HK := Lib.hid (And.intro hb1 (And.intro hy1 hs1))
              clear hbk hb1 hy1
              by_cases hma : m.f0 = a
              · have hq1 : (m.f0 != a) = false := by simp [hma]
                by_cases hok : t ≤ m.f2.f1
                · have hq2 : decide (t ≤ m.f2.f1) = true := decide_eq_true hok
                  have HGO := Lib.hid (show walkT soonF l v (tr.drop (k + 1)) m.f1 ((max t m.f2.f0)) = checkTrailF n l sv st v tr false by
                    have := HWW.out
                    rw [if_neg (by simp [soonF, hma, hok])] at this
                    exact this)
                  clear hma
                  go_wp2_with fail
                  have hk3 := HK.out
                  go_roundg k1
                  case rel => exact ⟨k + 1, m.f1, (max t m.f2.f0), by go_num, ⟨by have := HN.out; omega⟩, ⟨HGO.out⟩, ⟨(hk3.2.1.kept (grown_set W4 (w.heap.size + 1) 0 _) (by simp)).kept (grown_set _ (w.heap.size + 1) 1 _) (by simp)⟩, ⟨hset⟩, ⟨below_grown (below_grown hk3.1 (grown_set W4 (w.heap.size + 1) 0 _) (fun r e => by cases e; omega)) (grown_set _ (w.heap.size + 1) 1 _) (fun r e => by cases e; omega)⟩⟩
                  case measure => omega
                · have hq2 : decide (t ≤ m.f2.f1) = false := decide_eq_false hok
                  have HGO := Lib.hid (show 16 = checkTrailF n l sv st v tr false by
                    have := HWW.out
                    rw [if_pos (.inr (by simp [soonF]; omega))] at this
                    exact this)
                  clear hma
                  go_wp2_with fail
                  go_ret
                  exact ⟨by rw [← HGO.out]; rfl, HK.out.1⟩
              · have hq1 : (m.f0 != a) = true := by simp [hma]
                have HGO := Lib.hid (show 16 = checkTrailF n l sv st v tr false by
                  have := HWW.out
                  rw [if_pos (.inl hma)] at this
                  exact this)
                clear hma
                go_wp2_with fail
                go_ret
                exact ⟨by rw [← HGO.out]; rfl, HK.out.1⟩
            | zero =>
              have hk : k = tr.length := by have := HN.out; omega
              have hl4 : decide ((k : Int) < (tr.length : Int)) = false := decide_eq_false (by omega)
              have hl5 : decide (k < tr.length) = false := decide_eq_false (by omega)
              have hw := HW.out
              rw [hk, List.drop_length, walkT] at hw
              have HWW := Lib.hid hw
              clear hw HW
              by_cases hav : a = v
              · have hq1 : (a != v) = false := by simp [hav]
                have HAV := Lib.hid hav
                clear hav
                go_wp2_with fail
                go_ret
                exact ⟨by rw [← HWW.out, if_pos HAV.out]; rfl, HBW.out⟩
              · have hq1 : (a != v) = true := by simp [hav]
                have HAV := Lib.hid hav
                clear hav
                go_wp2_with fail
                go_ret
                exact ⟨by rw [← HWW.out, if_neg HAV.out]; rfl, HBW.out⟩
  · have HO := Lib.hid (open_bad n A c l sv st (some ⟨w.heap.size + 1 + 1, 0, none⟩) 1 [v] (((w.alloc (.cells #[.int .i64 n, .slice A l.length c] 24)).alloc (.cells #[.int .i64 sv, .int .i64 st] 26)).alloc (.cells #[.int .i64 v] 3)) hrx hcv hE)
    have HF := Lib.hid (show checkTrailF n l sv st v tr sure = openE n l sv st [v] by unfold checkTrailF; rw [if_pos hE])
    obtain ⟨ev, hev⟩ : ∃ ev, openE n l sv st [v] = ev := ⟨_, rfl⟩
    rw [hev] at HO hE HF
    have hne : (ev != 0) = true := by simp [hE]
    clear hev hE hbx hrx hcv
    go_enter Try.func18, Try.ntmps18
    go_wp2_with (go_at_call 52; refine (HO.out).mono ?_; rintro e w' ⟨rfl, hb1⟩; have HB1 := Lib.hid hb1; clear hb1)
    go_ret
    exact ⟨by rw [HF.out]; rfl, later3 HB1.out⟩
end Go.Proofs.Ytfhmepdbbhcncaa.P
