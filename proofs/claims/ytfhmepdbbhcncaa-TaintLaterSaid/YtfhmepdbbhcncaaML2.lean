/- Texts of this claim, joined: E15, E16, E17, E18, E19, E20, E21, E22, X, Px1. -/
import Derived.Test.YtfhmepdbbhcncaaML1
import Derived.Shelf.Sort.Plain
import Derived.Shelf.Slices.In.SortNone
import Derived.Sort.OwnSortedInts
import Derived.ChangeKeysEq
import Derived.Deep.MidRow
import Derived.Deep.WholeRow
namespace Go.Proofs.Ytfhmepdbbhcncaa.P
open Go.RowKit Go.Shelf Go.Proofs.YtfhmepdbbhcncaaW.PrintWords Go.Proofs.YtfhmepdbbhcncaaW.PrintLast Go.Proofs.YtfhmepdbbhcncaaW.PrintMore Go.Proofs.YtfhmepdbbhcncaaM Go.Proofs.YtfhmepdbbhcncaaR
set_option linter.unusedVariables false
set_option linter.unusedSimpArgs false

theorem C_one (w : World) (v : Int) : Kd.C (Kd.int .i64) (w.alloc (.cells #[.int .i64 v] 3)) (some ⟨w.heap.size, 0, none⟩) 1 [v] := by
  have h : RowC (w.alloc (.cells #[.int .i64 v] 3)) w.heap.size 3 1 [v] := by
    refine ⟨⟨_, Blk.new w _ 3, rfl, fun j hj => ?_⟩, by simp, by decide⟩
    have h0 : j = 0 := by simpa using hj
    subst h0
    rfl
  exact h.reads
theorem boxes3 (w : World) (o1 o2 o3 : Obj) : Below w.heap.size w (((w.alloc o1).alloc o2).alloc o3) := (((Below.refl _ _).alloc (Nat.le_refl _) _).alloc (by simp) _).alloc (by simp; omega) _
theorem later3 {w w' : World} {o1 o2 o3 : Obj} (h : Below (((w.alloc o1).alloc o2).alloc o3).heap.size (((w.alloc o1).alloc o2).alloc o3) w') : Below w.heap.size w w' := (boxes3 w o1 o2 o3).trans (h.mono (by simp; omega))

theorem wayL_len (l : List S58) (home : Int) : ∀ (k : Nat) (f : Int → Option Int) (a : Int) (acc r : List Int), wayL l home k f a acc = some r → r.length ≤ acc.length + k
  | 0, _, _, _, _, h => by simp [wayL] at h
  | k + 1, f, a, acc, r, h => by
    rw [wayL] at h
    split at h
    · injection h with h; subst h; omega
    · split at h
      · have := wayL_len l home k _ _ _ _ h
        simp at this; omega
      · cases h
def trailF (n : Int) (l : List S58) (sv st v : Int) : Option (List Int × Int) :=
  if openE n l sv st [v] ≠ 0 then some ([], openE n l sv st [v]) else if (runC soonF (fun _ => true) n l sv st).1.getD v.toNat 0 = 1048576 then some ([], 5) else
    match wayL l sv 1000 (runC soonF (fun _ => true) n l sv st).2 v [] with
    | some r => some (r.reverse, 0)
    | none => none

set_option maxHeartbeats 4000000 in
set_option maxRecDepth 100000 in
theorem trail_calls (n : Int) (A : Option Addr) (c : Nat) (l : List S58) (sv st v : Int) (r1 : List Int) (r2 : Int) (w : World) (hr : Kd.C k58 w A l.length l) (h : trailF n l sv st v = some (r1, r2)) :
    Calls Try.prog 32 #[.agg #[.int .i64 n, .slice A l.length c], .agg #[.int .i64 sv, .int .i64 st], .int .i64 v] w fun e w' => ∃ v0, e = .returned (.tuple #[v0, .int .i64 r2]) ∧ Kd.R (Kd.int .i64) 3 w' w.heap.size (fun _ => True) v0 r1 ∧ Below w.heap.size w w' := by
  have hbx := boxes3 w (.cells #[.int .i64 n, .slice A l.length c] 24) (.cells #[.int .i64 sv, .int .i64 st] 26) (.cells #[.int .i64 v] 3)
  have hrx := Kd.C_below hr hbx
  have hcv := C_one ((w.alloc (.cells #[.int .i64 n, .slice A l.length c] 24)).alloc (.cells #[.int .i64 sv, .int .i64 st] 26)) v
  simp only [World.size_alloc] at hcv
  have HR := Lib.hid hr
  have hlm := hr.2.1
  clear hr
  rcases Classical.em (openE n l sv st [v] = 0) with hE | hE
  · have HO := Lib.hid (open_ok n A c l sv st (some ⟨w.heap.size + 1 + 1, 0, none⟩) 1 [v] (((w.alloc (.cells #[.int .i64 n, .slice A l.length c] 24)).alloc (.cells #[.int .i64 sv, .int .i64 st] 26)).alloc (.cells #[.int .i64 v] 3)) hrx hcv hE)
    have HE := Lib.hid hE
    have HX := Lib.hid hbx
    have B0 : Blk (((w.alloc (.cells #[.int .i64 n, .slice A l.length c] 24)).alloc (.cells #[.int .i64 sv, .int .i64 st] 26)).alloc (.cells #[.int .i64 v] 3)) w.heap.size 24 #[.int .i64 n, .slice A l.length c] := ((Blk.new w _ 24).alloc _).alloc _
    have B01 : Blk (((w.alloc (.cells #[.int .i64 n, .slice A l.length c] 24)).alloc (.cells #[.int .i64 sv, .int .i64 st] 26)).alloc (.cells #[.int .i64 v] 3)) (w.heap.size + 1) 26 #[.int .i64 sv, .int .i64 st] := by
      have := (Blk.new (w.alloc (.cells #[.int .i64 n, .slice A l.length c] 24)) #[.int .i64 sv, .int .i64 st] 26).alloc (.cells #[.int .i64 v] 3)
      simpa only [World.size_alloc] using this
    have hsz : (((w.alloc (.cells #[.int .i64 n, .slice A l.length c] 24)).alloc (.cells #[.int .i64 sv, .int .i64 st] 26)).alloc (.cells #[.int .i64 v] 3)).heap.size = w.heap.size + 3 := by simp
    have HB0 := Lib.hid B0
    have HB01 := Lib.hid B01
    have HSZ := Lib.hid hsz
    clear hE hbx hrx B0 B01 hsz hcv
    go_enter Try.func32, Try.ntmps32
    go_upto_region 4 with (go_at_call 52; refine (HO.out).mono ?_; rintro e w' ⟨w1, hb1, rfl, rfl⟩; have HB1 := Lib.hid hb1; clear hb1)
    obtain ⟨hy, hsv, hsv2, hst, hst2, hvs⟩ := openOK HE.out
    have hv0 := (hvs v (by simp)).1
    have hv1 := (hvs v (by simp)).2
    clear hvs
    have hsz1 : w.heap.size + 3 ≤ w1.heap.size := by have := HB1.out.size; rw [HSZ.out] at this; exact this
    have hb2 : Below (w.heap.size + 3) (((w.alloc (.cells #[.int .i64 n, .slice A l.length c] 24)).alloc (.cells #[.int .i64 sv, .int .i64 st] 26)).alloc (.cells #[.int .i64 v] 3)) (w1.alloc (.cells (searchCells n (.slice A l.length c) sv st) 96)) := by rw [← HSZ.out]; exact HB1.out.alloc HB1.out.size _
    have HB2 := Lib.hid hb2
    have B1 := HB0.out.below hb2 (by omega)
    have B11 := HB01.out.below hb2 (by omega)
    have hB : Below w.heap.size w (w1.alloc (.cells (searchCells n (.slice A l.length c) sv st) 96)) := HX.out.trans (hb2.mono (by omega))
    have HS := opened w1 n (.slice A l.length c) sv st
    have HRUN := Lib.hid (run_any soonF 55 (.inl ⟨rfl, rfl⟩) n A c l sv st _ _ w1.heap.size w _ HS hy hsv hsv2 HR.out (by omega) hB.block)
    generalize w1.alloc (.cells (searchCells n (.slice A l.length c) sv st) 96) = W1 at *
    have HY := Lib.hid hy
    have HB1' := Lib.hid B1
    have HB11' := Lib.hid B11
    have HBB := Lib.hid hB
    have hBlt := HS.lt
    clear hb2 B1 B11 hB HS hy
    go_upto_region 5 with (go_at_call 61; refine (HRUN.out).mono ?_; rintro e W2 ⟨M, N, ⟨ve, rfl⟩, hS2, hM2, hg2, hM⟩; have HS2 := Lib.hid hS2; have HG2 := Lib.hid hg2; have HM2 := Lib.hid hM2; clear hS2 hM2 hg2)
    have hn1 := HY.out.n1
    have hn2 := HY.out.n2
    have hn0 : 0 ≤ n := by omega
    have hv20 : v < 20 := by omega
    have hlenl := HY.out.len
    have hw2 := Lib.hid (show Below w.heap.size w W2 from below_grown HBB.out HG2.out (fun r e => by cases e; omega))
    have hf := h
    unfold trailF at hf
    rw [if_neg (by rw [HE.out]; simp)] at hf
    have HF := Lib.hid hf
    clear hf h
    have hc := HS2.out.cm v.toNat (by omega)
    obtain ⟨t, ht⟩ : ∃ t, (runC soonF (fun _ => true) n l sv st).1.getD v.toNat 0 = t := ⟨_, rfl⟩
    rw [ht] at hc
    have HT := Lib.hid ht
    clear ht
    by_cases hne : t = 1048576
    · have hq : (t == 1048576) = true := by simp [hne]
      have hf := HF.out
      rw [if_pos (by rw [HT.out, hne])] at hf
      simp only [Option.some.injEq, Prod.mk.injEq] at hf
      obtain ⟨rfl, rfl⟩ := hf
      clear hne
      go_wp2_with fail
      go_ret2
      exact ⟨.slice none 0 0, rfl, Kd.R_nil _ _ _ _ _, hw2.out⟩
    · have hq : (t == 1048576) = false := by simp [hne]
      have hf := HF.out
      rw [if_neg (by rw [HT.out]; exact hne)] at hf
      clear hne HF
      cases hway : wayL l sv 1000 (runC soonF (fun _ => true) n l sv st).2 v [] with
      | none => rw [hway] at hf; cases hf
      | some r =>
        rw [hway] at hf
        simp only [Option.some.injEq, Prod.mk.injEq] at hf
        obtain ⟨rfl, rfl⟩ := hf
        have hrl := wayL_len l sv 1000 _ _ _ _ hway
        have HWAY := Lib.hid (way_calls w1.heap.size M N n A c l sv st _ _ v r w W2 1000 100001 HS2.out HM2.out (by omega) HR.out hw2.out.size hw2.out.block (by omega) (Nat.le_refl _) hway (rev_ok r (by simp at hrl; omega)))
        clear hway
        go_upto_region 8 with (go_at_call 65; refine (HWAY.out).mono ?_; rintro e W3 ⟨vo, rfl, ho, hg⟩; have HO3 := Lib.hid ho; have HG3 := Lib.hid hg; clear ho hg)
        have hw3 := Lib.hid (below_grown hw2.out HG3.out (fun r e => by cases e; omega))
        have hrr0 : r.reverse.length ≤ 1000 := by simp at hrl ⊢; omega
        obtain ⟨rr, hrr1⟩ : ∃ rr, r.reverse = rr := ⟨_, rfl⟩
        rw [hrr1] at HO3 hrr0
        have HRR := Lib.hid hrr1
        clear hrr1
        obtain ⟨A', c', rfl, hc'⟩ := HO3.out.shape
        have hC3 := Lib.hid (Kd.R_reads' HO3.out.own).2.2
        go_upto_region 9 with ((with_reducible refine gate_dst (N := 39) rfl ?_); refine Kd.R_make (Kd.int .i64) (w0 := W3) W3.heap.size 3 rfl (N := 39) rfl 27 (.tmp 38) (.tmp 38) rfl (rr.length : Int) rfl rfl Try.underlying27 (.int .i64 0) 8 info3 rfl (by decide) (by omega) 0 (ok := fun _ => True) (okp := fun _ => True) rfl (fun _ hk => hk) trivial (by omega) (by omega) (Below.refl _ _) (Nat.le_refl _) ?_; intro vm w11 ho12 hb12 hg12 hn12; have HO12 := Lib.hid ho12; have HB12 := Lib.hid hb12; clear ho12 hb12 hg12 hn12)
        have hC4 := Lib.hid (Kd.C_below hC3.out HB12.out)
        go_wp2_with ((with_reducible refine gate_builtin (b := .copy) (xs := #[.tmp 40, .tmp 41]) rfl ?_); refine Kd.R_copy (0 : Int) (w0 := W3) W3.heap.size rfl (.tmp 40) (.tmp 41) 27 27 3 rfl Try.underlying27 (by kernel_rfl) vm (List.replicate rr.length (0 : Int)) rr A' rr.length c' (fun _ => True) rfl rfl HO12.out hC4.out HB12.out HB12.out.size ?_; intro w12 ho13 hb13 hg13; have HO13 := Lib.hid ho13; have HB13 := Lib.hid hb13; clear ho13 hb13 hg13)
        go_ret2
        have hb3 := hw3.out
        refine ⟨vm, rfl, ?_, below_then hb3 hb3.size HB13.out⟩
        have := HO13.out
        simp only [List.length_replicate, Nat.min_self, List.take_length, List.drop_replicate, Nat.sub_self, List.replicate_zero, List.append_nil] at this
        rw [HRR.out]
        exact Kd.R_lower this hb3.size
  · have HO := Lib.hid (open_bad n A c l sv st (some ⟨w.heap.size + 1 + 1, 0, none⟩) 1 [v] (((w.alloc (.cells #[.int .i64 n, .slice A l.length c] 24)).alloc (.cells #[.int .i64 sv, .int .i64 st] 26)).alloc (.cells #[.int .i64 v] 3)) hrx hcv hE)
    have hf := h
    unfold trailF at hf
    rw [if_pos hE] at hf
    simp only [Option.some.injEq, Prod.mk.injEq] at hf
    obtain ⟨rfl, rfl⟩ := hf
    obtain ⟨ev, hev⟩ : ∃ ev, openE n l sv st [v] = ev := ⟨_, rfl⟩
    rw [hev] at HO hE
    have HEV := Lib.hid hev
    have hne : (ev != 0) = true := by simp [hE]
    have HE := Lib.hid hE
    have HX := Lib.hid hbx
    clear hev hE hbx hrx hcv
    go_enter Try.func32, Try.ntmps32
    go_wp2_with (go_at_call 52; refine (HO.out).mono ?_; rintro e w' ⟨rfl, hb1⟩; have HB1 := Lib.hid hb1; clear hb1)
    go_ret2
    exact ⟨.slice none 0 0, by rw [HEV.out]; rfl, Kd.R_nil _ _ _ _ _, later3 HB1.out⟩
end Go.Proofs.Ytfhmepdbbhcncaa.P

namespace Go.Proofs.Ytfhmepdbbhcncaa.P
open Go.RowKit Go.Shelf Go.Proofs.YtfhmepdbbhcncaaW.PrintWords Go.Proofs.YtfhmepdbbhcncaaW.PrintLast Go.Proofs.YtfhmepdbbhcncaaW.PrintMore Go.Proofs.YtfhmepdbbhcncaaM Go.Proofs.YtfhmepdbbhcncaaR
set_option linter.unusedVariables false
set_option linter.unusedSimpArgs false

def badIx (len : Nat) (i : Int) : Bool := decide (i < 0) || decide ((len : Int) ≤ i)
def walkT (step : Int → S58 → Int × Bool) (l : List S58) (v : Int) : List Int → Int → Int → Int
  | [], a, _ => if a = v then 0 else 16
  | i :: is, a, t => if (rd_T58 l i).f0 ≠ a ∨ (step t (rd_T58 l i)).2 = false then 16 else walkT step l v is (rd_T58 l i).f1 (step t (rd_T58 l i)).1
def checkTrailF (n : Int) (l : List S58) (sv st v : Int) (tr : List Int) (sure : Bool) : Int :=
  if openE n l sv st [v] ≠ 0 then openE n l sv st [v] else if 40 < tr.length then 6 else if tr.any (badIx l.length) then 2 else walkT (if sure then sureF else soonF) l v tr sv st

set_option maxHeartbeats 400000 in
set_option maxRecDepth 100000 in
theorem ix_lit (w : World) (b : Nat) (n : Int) (A : Option Addr) (c : Nat) (len : Nat) (hlen : len ≤ 9223372036854775807) (h1 : b < w.heap.size) (c1 : w.cell? ⟨b, 1, none⟩ = some (.slice A len c)) :
    PredB 54 #[.pointer (some ⟨b, 0, none⟩)] (Value.int .i64) (badIx len) w := by
  intro W x hb
  have d1 : W.cell? ⟨b, 1, none⟩ = some (.slice A len c) := (hb.cell (p := ⟨b, 1, none⟩) h1).trans c1
  clear c1 hb h1
  show Calls Try.prog 54 #[.int .i64 x, .pointer (some ⟨b, 0, none⟩)] W _
  by_cases hx : x < 0
  · have hd : decide (x < 0) = true := decide_eq_true hx
    have F := Lib.hid (show badIx len x = true by simp [badIx, hx])
    clear hx
    go_enter Try.func54, Try.ntmps54
    go_wp2
    go_ret
    exact ⟨by rw [F.out]; rfl, Below.refl _ _⟩
  · have hd : decide (x < 0) = false := decide_eq_false hx
    have F := Lib.hid (show badIx len x = decide ((len : Int) ≤ x) by simp [badIx, hx])
    go_enter Try.func54, Try.ntmps54
    go_wp2
    go_ret
    exact ⟨by rw [F.out]; rfl, Below.refl _ _⟩

theorem Blk.sets2 {W : World} {b : Nat} {t : TypeId} {x y : Value} (h : Blk W b t #[x, y]) (u v : Int) : Blk ((W.setCell ⟨b, 0, none⟩ (.int .i64 u)).setCell ⟨b, 1, none⟩ (.int .i64 v)) b t #[.int .i64 u, .int .i64 v] := by
  have := (h.set 0 (.int .i64 u)).set 1 (.int .i64 v)
  simpa using this

set_option maxHeartbeats 4000000 in
set_option maxRecDepth 100000 in
theorem checkTrail_calls (n : Int) (A : Option Addr) (c : Nat) (l : List S58) (sv st v : Int) (At : Option Addr) (ct : Nat) (tr : List Int) (sure : Bool) (w : World) (hr : Kd.C k58 w A l.length l) (ht : Kd.C (Kd.int .i64) w At tr.length tr) :
    Calls Try.prog 18 #[.agg #[.int .i64 n, .slice A l.length c], .agg #[.int .i64 sv, .int .i64 st], .int .i64 v, .slice At tr.length ct, .bool sure] w fun e w' => e = .returned (.int .i64 (checkTrailF n l sv st v tr sure)) ∧ Below w.heap.size w w' := by
  have hbx := boxes3 w (.cells #[.int .i64 n, .slice A l.length c] 24) (.cells #[.int .i64 sv, .int .i64 st] 26) (.cells #[.int .i64 v] 3)
  have hrx := Kd.C_below hr hbx
  have hcv := C_one ((w.alloc (.cells #[.int .i64 n, .slice A l.length c] 24)).alloc (.cells #[.int .i64 sv, .int .i64 st] 26)) v
  simp only [World.size_alloc] at hcv
  have HR := Lib.hid hr
  have HTR := Lib.hid ht
  have hlm := hr.2.1
  have htm := ht.2.1
  clear hr ht
  rcases Classical.em (openE n l sv st [v] = 0) with hE | hE
  · have HO := Lib.hid (open_ok n A c l sv st (some ⟨w.heap.size + 1 + 1, 0, none⟩) 1 [v] (((w.alloc (.cells #[.int .i64 n, .slice A l.length c] 24)).alloc (.cells #[.int .i64 sv, .int .i64 st] 26)).alloc (.cells #[.int .i64 v] 3)) hrx hcv hE)
    have HE := Lib.hid hE
    have HX := Lib.hid hbx
    have B0 : Blk (((w.alloc (.cells #[.int .i64 n, .slice A l.length c] 24)).alloc (.cells #[.int .i64 sv, .int .i64 st] 26)).alloc (.cells #[.int .i64 v] 3)) w.heap.size 24 #[.int .i64 n, .slice A l.length c] := ((Blk.new w _ 24).alloc _).alloc _
    have B01 : Blk (((w.alloc (.cells #[.int .i64 n, .slice A l.length c] 24)).alloc (.cells #[.int .i64 sv, .int .i64 st] 26)).alloc (.cells #[.int .i64 v] 3)) (w.heap.size + 1) 26 #[.int .i64 sv, .int .i64 st] := by
      have := (Blk.new (w.alloc (.cells #[.int .i64 n, .slice A l.length c] 24)) #[.int .i64 sv, .int .i64 st] 26).alloc (.cells #[.int .i64 v] 3)
      simpa only [World.size_alloc] using this
    have hsz : (((w.alloc (.cells #[.int .i64 n, .slice A l.length c] 24)).alloc (.cells #[.int .i64 sv, .int .i64 st] 26)).alloc (.cells #[.int .i64 v] 3)).heap.size = w.heap.size + 3 := by simp
    have HB0 := Lib.hid B0
    have HB01 := Lib.hid B01
    have HSZ := Lib.hid hsz
    clear hE hbx hrx B0 B01 hsz hcv
    go_enter Try.func18, Try.ntmps18
    go_upto_region 4 with (go_at_call 52; refine (HO.out).mono ?_; rintro e w' ⟨w1, hb1, rfl, rfl⟩; have HB1 := Lib.hid hb1; clear hb1)
    have hsz1 : w.heap.size + 3 ≤ w1.heap.size := by have := HB1.out.size; rw [HSZ.out] at this; exact this
    have hb2 : Below (w.heap.size + 3) (((w.alloc (.cells #[.int .i64 n, .slice A l.length c] 24)).alloc (.cells #[.int .i64 sv, .int .i64 st] 26)).alloc (.cells #[.int .i64 v] 3)) (w1.alloc (.cells (searchCells n (.slice A l.length c) sv st) 96)) := by rw [← HSZ.out]; exact HB1.out.alloc HB1.out.size _
    have B1 := HB0.out.below hb2 (by omega)
    have B11 := HB01.out.below hb2 (by omega)
    have hB : Below w.heap.size w (w1.alloc (.cells (searchCells n (.slice A l.length c) sv st) 96)) := HX.out.trans (hb2.mono (by omega))
    have hlt1 : w1.heap.size < (w1.alloc (.cells (searchCells n (.slice A l.length c) sv st) 96)).heap.size := by simp
    generalize w1.alloc (.cells (searchCells n (.slice A l.length c) sv st) 96) = W1 at *
    have HF0 := Lib.hid (show checkTrailF n l sv st v tr sure = if 40 < tr.length then 6 else if tr.any (badIx l.length) then 2 else walkT (if sure then sureF else soonF) l v tr sv st by unfold checkTrailF; rw [if_neg (by rw [HE.out]; simp)])
    by_cases h40 : 40 < tr.length
    · have hd1 : decide ((tr.length : Int) > 40) = true := decide_eq_true (by omega)
      have hd2 : decide (tr.length > 40) = true := decide_eq_true h40
      have HF := Lib.hid (HF0.out.trans (if_pos h40))
      have HBB := Lib.hid hB
      clear B1 B11 hB hb2
      go_wp2_with fail
      go_ret
      exact ⟨by rw [HF.out]; rfl, HBB.out⟩
    · have hd1 : decide ((tr.length : Int) > 40) = false := decide_eq_false (by omega)
      have hd2 : decide (tr.length > 40) = false := decide_eq_false h40
      have hrt := Kd.C_below HTR.out hB
      have HCF := Lib.hid (ContainsFunc53 54 #[.pointer (some ⟨w.heap.size, 0, none⟩)] (badIx l.length) At ct tr W1 (enters_of Try.func54 (by kernel_rfl) rfl) hrt (ix_lit W1 w.heap.size n A c l.length hlm B1.lt (B1.cell 1)))
      have HBB := Lib.hid hB
      have HB1 := Lib.hid B1
      have HB11 := Lib.hid B11
      clear hrt B1 B11 hB hb2
      cases hany : tr.any (badIx l.length) with
      | true =>
        rw [hany] at HCF
        have HF := Lib.hid (HF0.out.trans ((if_neg h40).trans (if_pos hany)))
        clear hany
        go_wp2_with (go_at_call 53; refine (HCF.out).mono ?_; rintro e W2 ⟨rfl, hb4⟩; have HB5 := Lib.hid hb4; clear hb4)
        go_ret
        exact ⟨by rw [HF.out]; rfl, below_then HBB.out HBB.out.size HB5.out⟩
      | false =>
        rw [hany] at HCF
        have HF := Lib.hid (HF0.out.trans ((if_neg h40).trans (if_neg (by rw [hany]; simp))))
        have HIX := Lib.hid (show ∀ i ∈ tr, 0 ≤ i ∧ i < (l.length : Int) from fun i hi => by
          have := List.any_eq_false.1 hany i hi
          simp [badIx] at this
          omega)
        clear hany HF0
        go_upto_region 8 with (go_at_call 53; refine (HCF.out).mono ?_; rintro e W2 ⟨rfl, hb4⟩; have HB5 := Lib.hid hb4; clear hb4)
        have HY4 := Lib.hid (HB1.out.below HB5.out HB1.out.lt)
        have HS4 := Lib.hid (HB11.out.below HB5.out HB11.out.lt)
        have HB4 := Lib.hid (below_then HBB.out HBB.out.size HB5.out)
        clear HB1 HB11 HBB HB5 HCF
        cases sure with
        | true =>
          have HW0 := Lib.hid (show walkT sureF l v tr sv st = checkTrailF n l sv st v tr true by rw [HF.out]; rfl)
          go_wp2_with fail
          go_loopg [42] tr.length (fun kq v42 w' => ∃ (k : Nat) (a t : Int), v42 = .int .i64 k ∧ Aside0 (k + kq = tr.length) ∧ Aside0 (walkT sureF l v (tr.drop k) a t = checkTrailF n l sv st v tr true) ∧ Aside0 (Blk w' w.heap.size 24 #[.int .i64 n, .slice A l.length c]) ∧ Aside0 (Blk w' (w.heap.size + 1) 26 #[.int .i64 a, .int .i64 t]) ∧ Aside0 (Below w.heap.size w w'))
          case atStart => exact ⟨0, sv, st, rfl, ⟨by omega⟩, ⟨HW0.out⟩, ⟨HY4.out⟩, ⟨HS4.out⟩, ⟨HB4.out⟩⟩
          case round =>
            obtain ⟨k, a, t, rfl, HN, HW, HYB, HSB, HBW⟩ := hrel
            have cy : wr.cell? ⟨w.heap.size, 1, none⟩ = some (.slice A l.length c) := HYB.out.cell 1
            have cs0 : wr.cell? ⟨w.heap.size + 1, 0, none⟩ = some (.int .i64 a) := HSB.out.cell 0
            have cs1 : wr.cell? ⟨w.heap.size + 1, 1, none⟩ = some (.int .i64 t) := HSB.out.cell 1
            cases gk with
            | succ k1 =>
              have hlt : k < tr.length := by have := HN.out; omega
              have hl4 : decide ((k : Int) < (tr.length : Int)) = true := decide_eq_true (by omega)
              have hl5 : decide (k < tr.length) = true := decide_eq_true hlt
              have hT := Kd.C_below HTR.out HBW.out
              obtain ⟨adt, et, hct⟩ := Kd.at_int hT (k : Int) (by omega) (by omega)
              cases et
              rw [Int.toNat_natCast] at hct
              have hrd : rd tr (k : Int) = tr[k] := by rw [rd_nat tr k hlt]
              have hi := HIX.out tr[k] (List.getElem_mem hlt)
              have hw := HW.out
              rw [List.drop_eq_getElem_cons hlt, walkT] at hw
              rw [hrd] at hct
              generalize tr[k] = i at *
              have hC := Kd.C_below HR.out HBW.out
              obtain ⟨ad, e0, hc0, hc1, hc2, hc3⟩ := at_T58 hC i hi.1 hi.2
              cases e0
              have hi1 := hi.1
              have hi2 := hi.2
              have hi3 : i.toNat < l.length := by omega
              clear hC hT hrd hi HW
              generalize rd_T58 l i = m at *
              have HCS := Lib.hid (fun (X : World) => surest_calls t m X)
              have e58 : enc58 m = .agg #[.int .i64 m.f0, .int .i64 m.f1, .int .i64 m.f2.f0, .int .i64 m.f2.f1] := rfl
              rw [e58] at HCS
              have HWW := Lib.hid hw
              clear hw e58
              have hbk := Blk.new wr #[.int .i64 m.f0, .int .i64 m.f1, .int .i64 m.f2.f0, .int .i64 m.f2.f1] 58
              have hb1 : Below w.heap.size w (wr.alloc (.cells #[.int .i64 m.f0, .int .i64 m.f1, .int .i64 m.f2.f0, .int .i64 m.f2.f1] 58)) := HBW.out.alloc HBW.out.size _
              have hy1 := HYB.out.alloc (.cells #[.int .i64 m.f0, .int .i64 m.f1, .int .i64 m.f2.f0, .int .i64 m.f2.f1] 58)
              have hs1 := HSB.out.alloc (.cells #[.int .i64 m.f0, .int .i64 m.f1, .int .i64 m.f2.f0, .int .i64 m.f2.f1] 58)
              go_upto_region 15 with (fail)
              generalize wr.heap.size = bM at *
              generalize wr.alloc (.cells #[.int .i64 m.f0, .int .i64 m.f1, .int .i64 m.f2.f0, .int .i64 m.f2.f1] 58) = W3 at *
              clear cy cs0 cs1 hct hc0 hc1 hc2 hc3 HYB HSB HBW
              have cs1 : W3.cell? ⟨w.heap.size + 1, 1, none⟩ = some (.int .i64 t) := hs1.cell 1
              have g0 : W3.cell? ⟨bM, 0, none⟩ = some (.int .i64 m.f0) := hbk.cell 0
              have g1 : W3.cell? ⟨bM, 1, none⟩ = some (.int .i64 m.f1) := hbk.cell 1
              have g2 : W3.cell? ⟨bM, 2, none⟩ = some (.int .i64 m.f2.f0) := hbk.cell 2
              have g3 : W3.cell? ⟨bM, 3, none⟩ = some (.int .i64 m.f2.f1) := hbk.cell 3
              have HK := Lib.hid (And.intro hbk (And.intro hb1 (And.intro hy1 hs1)))
              clear hbk hb1 hy1 hs1
              go_upto_region 16 with (go_at_call 56; refine (HCS.out _).mono ?_; rintro e W4 ⟨rfl, hb4⟩; have HB5 := Lib.hid hb4; clear hb4)
              obtain ⟨hbk, hb1, hy1, hs1⟩ := HK.out
              have hbk := hbk.below HB5.out hbk.lt
              have hb1 := below_then hb1 hb1.size HB5.out
              have hy1 := hy1.below HB5.out hy1.lt
              have hs1 := hs1.below HB5.out hs1.lt
              clear cs1 g0 g1 g2 g3 HK
              have cs0 : W4.cell? ⟨w.heap.size + 1, 0, none⟩ = some (.int .i64 a) := hs1.cell 0
              have cf0 := hs1.fz 0
              have cf1 := hs1.fz 1
              have cs1 : W4.cell? ⟨w.heap.size + 1, 1, none⟩ = some (.int .i64 t) := hs1.cell 1
              have g0 : W4.cell? ⟨bM, 0, none⟩ = some (.int .i64 m.f0) := hbk.cell 0
              have g1 : W4.cell? ⟨bM, 1, none⟩ = some (.int .i64 m.f1) := hbk.cell 1
              have hset := hs1.sets2 m.f1 m.f2.f1
              have HK := Lib.hid (And.intro hb1 (And.intro hy1 hs1))
              clear hbk hb1 hy1
              by_cases hma : m.f0 = a
              · have hq1 : (m.f0 != a) = false := by simp [hma]
                by_cases hok : t ≤ m.f2.f0
                · have hq2 : decide (t ≤ m.f2.f0) = true := decide_eq_true hok
                  have HGO := Lib.hid (show walkT sureF l v (tr.drop (k + 1)) m.f1 (m.f2.f1) = checkTrailF n l sv st v tr true by
                    have := HWW.out
                    rw [if_neg (by simp [sureF, hma, hok])] at this
                    exact this)
                  clear hma
                  go_wp2_with fail
                  have hk3 := HK.out
                  go_roundg k1
                  case rel => exact ⟨k + 1, m.f1, m.f2.f1, by go_num, ⟨by have := HN.out; omega⟩, ⟨HGO.out⟩, ⟨(hk3.2.1.kept (grown_set W4 (w.heap.size + 1) 0 _) (by simp)).kept (grown_set _ (w.heap.size + 1) 1 _) (by simp)⟩, ⟨hset⟩, ⟨below_grown (below_grown hk3.1 (grown_set W4 (w.heap.size + 1) 0 _) (fun r e => by cases e; omega)) (grown_set _ (w.heap.size + 1) 1 _) (fun r e => by cases e; omega)⟩⟩
                  case measure => omega
                · have hq2 : decide (t ≤ m.f2.f0) = false := decide_eq_false hok
                  have HGO := Lib.hid (show 16 = checkTrailF n l sv st v tr true by
                    have := HWW.out
                    rw [if_pos (.inr (by simp [sureF]; omega))] at this
                    exact this)
                  clear hma
                  go_wp2_with fail
                  go_ret
                  exact ⟨by rw [← HGO.out]; rfl, HK.out.1⟩
              · have hq1 : (m.f0 != a) = true := by simp [hma]
                have HGO := Lib.hid (show 16 = checkTrailF n l sv st v tr true by
                  have := HWW.out
                  rw [if_pos (.inl hma)] at this
                  exact this)
                clear hma
                go_wp2_with fail
                go_ret
                exact ⟨by rw [← HGO.out]; rfl, HK.out.1⟩
            | zero =>
              have hk : k = tr.length := by have := HN.out; omega
              have hl4 : decide ((k : Int) < (tr.length : Int)) = false := decide_eq_false (by omega)
              have hl5 : decide (k < tr.length) = false := decide_eq_false (by omega)
              have hw := HW.out
              rw [hk, List.drop_length, walkT] at hw
              have HWW := Lib.hid hw
              clear hw HW
              by_cases hav : a = v
              · have hq1 : (a != v) = false := by simp [hav]
                have HAV := Lib.hid hav
                clear hav
                go_wp2_with fail
                go_ret
                exact ⟨by rw [← HWW.out, if_pos HAV.out]; rfl, HBW.out⟩
              · have hq1 : (a != v) = true := by simp [hav]
                have HAV := Lib.hid hav
                clear hav
                go_wp2_with fail
                go_ret
                exact ⟨by rw [← HWW.out, if_neg HAV.out]; rfl, HBW.out⟩
        | false =>
          have HW0 := Lib.hid (show walkT soonF l v tr sv st = checkTrailF n l sv st v tr false by rw [HF.out]; rfl)
          go_wp2_with fail
          go_loopg [42] tr.length (fun kq v42 w' => ∃ (k : Nat) (a t : Int), v42 = .int .i64 k ∧ Aside0 (k + kq = tr.length) ∧ Aside0 (walkT soonF l v (tr.drop k) a t = checkTrailF n l sv st v tr false) ∧ Aside0 (Blk w' w.heap.size 24 #[.int .i64 n, .slice A l.length c]) ∧ Aside0 (Blk w' (w.heap.size + 1) 26 #[.int .i64 a, .int .i64 t]) ∧ Aside0 (Below w.heap.size w w'))
          case atStart => exact ⟨0, sv, st, rfl, ⟨by omega⟩, ⟨HW0.out⟩, ⟨HY4.out⟩, ⟨HS4.out⟩, ⟨HB4.out⟩⟩
          case round =>
            obtain ⟨k, a, t, rfl, HN, HW, HYB, HSB, HBW⟩ := hrel
            have cy : wr.cell? ⟨w.heap.size, 1, none⟩ = some (.slice A l.length c) := HYB.out.cell 1
            have cs0 : wr.cell? ⟨w.heap.size + 1, 0, none⟩ = some (.int .i64 a) := HSB.out.cell 0
            have cs1 : wr.cell? ⟨w.heap.size + 1, 1, none⟩ = some (.int .i64 t) := HSB.out.cell 1
            cases gk with
            | succ k1 =>
              have hlt : k < tr.length := by have := HN.out; omega
              have hl4 : decide ((k : Int) < (tr.length : Int)) = true := decide_eq_true (by omega)
              have hl5 : decide (k < tr.length) = true := decide_eq_true hlt
              have hT := Kd.C_below HTR.out HBW.out
              obtain ⟨adt, et, hct⟩ := Kd.at_int hT (k : Int) (by omega) (by omega)
              cases et
              rw [Int.toNat_natCast] at hct
              have hrd : rd tr (k : Int) = tr[k] := by rw [rd_nat tr k hlt]
              have hi := HIX.out tr[k] (List.getElem_mem hlt)
              have hw := HW.out
              rw [List.drop_eq_getElem_cons hlt, walkT] at hw
              rw [hrd] at hct
              generalize tr[k] = i at *
              have hC := Kd.C_below HR.out HBW.out
              obtain ⟨ad, e0, hc0, hc1, hc2, hc3⟩ := at_T58 hC i hi.1 hi.2
              cases e0
              have hi1 := hi.1
              have hi2 := hi.2
              have hi3 : i.toNat < l.length := by omega
              clear hC hT hrd hi HW
              generalize rd_T58 l i = m at *
              have HCS := Lib.hid (fun (X : World) => soonest_calls t m X)
              have e58 : enc58 m = .agg #[.int .i64 m.f0, .int .i64 m.f1, .int .i64 m.f2.f0, .int .i64 m.f2.f1] := rfl
              rw [e58] at HCS
              have HWW := Lib.hid hw
              clear hw e58
              have hbk := Blk.new wr #[.int .i64 m.f0, .int .i64 m.f1, .int .i64 m.f2.f0, .int .i64 m.f2.f1] 58
              have hb1 : Below w.heap.size w (wr.alloc (.cells #[.int .i64 m.f0, .int .i64 m.f1, .int .i64 m.f2.f0, .int .i64 m.f2.f1] 58)) := HBW.out.alloc HBW.out.size _
              have hy1 := HYB.out.alloc (.cells #[.int .i64 m.f0, .int .i64 m.f1, .int .i64 m.f2.f0, .int .i64 m.f2.f1] 58)
              have hs1 := HSB.out.alloc (.cells #[.int .i64 m.f0, .int .i64 m.f1, .int .i64 m.f2.f0, .int .i64 m.f2.f1] 58)
              go_upto_region 15 with (fail)
              generalize wr.heap.size = bM at *
              generalize wr.alloc (.cells #[.int .i64 m.f0, .int .i64 m.f1, .int .i64 m.f2.f0, .int .i64 m.f2.f1] 58) = W3 at *
              clear cy cs0 cs1 hct hc0 hc1 hc2 hc3 HYB HSB HBW
              have cs1 : W3.cell? ⟨w.heap.size + 1, 1, none⟩ = some (.int .i64 t) := hs1.cell 1
              have g0 : W3.cell? ⟨bM, 0, none⟩ = some (.int .i64 m.f0) := hbk.cell 0
              have g1 : W3.cell? ⟨bM, 1, none⟩ = some (.int .i64 m.f1) := hbk.cell 1
              have g2 : W3.cell? ⟨bM, 2, none⟩ = some (.int .i64 m.f2.f0) := hbk.cell 2
              have g3 : W3.cell? ⟨bM, 3, none⟩ = some (.int .i64 m.f2.f1) := hbk.cell 3
              have HK := Lib.hid (And.intro hbk (And.intro hb1 (And.intro hy1 hs1)))
              clear hbk hb1 hy1 hs1
              go_upto_region 16 with (go_at_call 55; refine (HCS.out _).mono ?_; rintro e W4 ⟨rfl, hb4⟩; have HB5 := Lib.hid hb4; clear hb4)
              obtain ⟨hbk, hb1, hy1, hs1⟩ := HK.out
              have hbk := hbk.below HB5.out hbk.lt
              have hb1 := below_then hb1 hb1.size HB5.out
              have hy1 := hy1.below HB5.out hy1.lt
              have hs1 := hs1.below HB5.out hs1.lt
              clear cs1 g0 g1 g2 g3 HK
              have cs0 : W4.cell? ⟨w.heap.size + 1, 0, none⟩ = some (.int .i64 a) := hs1.cell 0
              have cf0 := hs1.fz 0
              have cf1 := hs1.fz 1
              have cs1 : W4.cell? ⟨w.heap.size + 1, 1, none⟩ = some (.int .i64 t) := hs1.cell 1
              have g0 : W4.cell? ⟨bM, 0, none⟩ = some (.int .i64 m.f0) := hbk.cell 0
              have g1 : W4.cell? ⟨bM, 1, none⟩ = some (.int .i64 m.f1) := hbk.cell 1
              have hset := hs1.sets2 m.f1 (max t m.f2.f0)
              have HK := Lib.hid (And.intro hb1 (And.intro hy1 hs1))
              clear hbk hb1 hy1
              by_cases hma : m.f0 = a
              · have hq1 : (m.f0 != a) = false := by simp [hma]
                by_cases hok : t ≤ m.f2.f1
                · have hq2 : decide (t ≤ m.f2.f1) = true := decide_eq_true hok
                  have HGO := Lib.hid (show walkT soonF l v (tr.drop (k + 1)) m.f1 ((max t m.f2.f0)) = checkTrailF n l sv st v tr false by
                    have := HWW.out
                    rw [if_neg (by simp [soonF, hma, hok])] at this
                    exact this)
                  clear hma
                  go_wp2_with fail
                  have hk3 := HK.out
                  go_roundg k1
                  case rel => exact ⟨k + 1, m.f1, (max t m.f2.f0), by go_num, ⟨by have := HN.out; omega⟩, ⟨HGO.out⟩, ⟨(hk3.2.1.kept (grown_set W4 (w.heap.size + 1) 0 _) (by simp)).kept (grown_set _ (w.heap.size + 1) 1 _) (by simp)⟩, ⟨hset⟩, ⟨below_grown (below_grown hk3.1 (grown_set W4 (w.heap.size + 1) 0 _) (fun r e => by cases e; omega)) (grown_set _ (w.heap.size + 1) 1 _) (fun r e => by cases e; omega)⟩⟩
                  case measure => omega
                · have hq2 : decide (t ≤ m.f2.f1) = false := decide_eq_false hok
                  have HGO := Lib.hid (show 16 = checkTrailF n l sv st v tr false by
                    have := HWW.out
                    rw [if_pos (.inr (by simp [soonF]; omega))] at this
                    exact this)
                  clear hma
                  go_wp2_with fail
                  go_ret
                  exact ⟨by rw [← HGO.out]; rfl, HK.out.1⟩
              · have hq1 : (m.f0 != a) = true := by simp [hma]
                have HGO := Lib.hid (show 16 = checkTrailF n l sv st v tr false by
                  have := HWW.out
                  rw [if_pos (.inl hma)] at this
                  exact this)
                clear hma
                go_wp2_with fail
                go_ret
                exact ⟨by rw [← HGO.out]; rfl, HK.out.1⟩
            | zero =>
              have hk : k = tr.length := by have := HN.out; omega
              have hl4 : decide ((k : Int) < (tr.length : Int)) = false := decide_eq_false (by omega)
              have hl5 : decide (k < tr.length) = false := decide_eq_false (by omega)
              have hw := HW.out
              rw [hk, List.drop_length, walkT] at hw
              have HWW := Lib.hid hw
              clear hw HW
              by_cases hav : a = v
              · have hq1 : (a != v) = false := by simp [hav]
                have HAV := Lib.hid hav
                clear hav
                go_wp2_with fail
                go_ret
                exact ⟨by rw [← HWW.out, if_pos HAV.out]; rfl, HBW.out⟩
              · have hq1 : (a != v) = true := by simp [hav]
                have HAV := Lib.hid hav
                clear hav
                go_wp2_with fail
                go_ret
                exact ⟨by rw [← HWW.out, if_neg HAV.out]; rfl, HBW.out⟩
  · have HO := Lib.hid (open_bad n A c l sv st (some ⟨w.heap.size + 1 + 1, 0, none⟩) 1 [v] (((w.alloc (.cells #[.int .i64 n, .slice A l.length c] 24)).alloc (.cells #[.int .i64 sv, .int .i64 st] 26)).alloc (.cells #[.int .i64 v] 3)) hrx hcv hE)
    have HF := Lib.hid (show checkTrailF n l sv st v tr sure = openE n l sv st [v] by unfold checkTrailF; rw [if_pos hE])
    obtain ⟨ev, hev⟩ : ∃ ev, openE n l sv st [v] = ev := ⟨_, rfl⟩
    rw [hev] at HO hE HF
    have hne : (ev != 0) = true := by simp [hE]
    clear hev hE hbx hrx hcv
    go_enter Try.func18, Try.ntmps18
    go_wp2_with (go_at_call 52; refine (HO.out).mono ?_; rintro e w' ⟨rfl, hb1⟩; have HB1 := Lib.hid hb1; clear hb1)
    go_ret
    exact ⟨by rw [HF.out]; rfl, later3 HB1.out⟩
end Go.Proofs.Ytfhmepdbbhcncaa.P

namespace Go.Proofs.Ytfhmepdbbhcncaa.P
open Go.RowKit Go.Shelf Go.Proofs.YtfhmepdbbhcncaaW.PrintWords Go.Proofs.YtfhmepdbbhcncaaW.PrintLast Go.Proofs.YtfhmepdbbhcncaaW.PrintMore Go.Proofs.YtfhmepdbbhcncaaM Go.Proofs.YtfhmepdbbhcncaaR
set_option linter.unusedVariables false
set_option linter.unusedSimpArgs false

def PredL {α : Type} (g : Nat) (lb : Array Value) (enc : α → Value) (p : α → Bool) (l : List α) (w : World) : Prop :=
  ∀ (W : World) (x : α), x ∈ l → Below w.heap.size w W → Calls Try.prog g (#[enc x] ++ lb) W fun e w' => e = .returned (.bool (p x)) ∧ Below W.heap.size W w'

set_option maxHeartbeats 1000000 in
set_option maxRecDepth 100000 in
theorem IndexFunc71L (g : Nat) (lb : Array Value) (p : S58 → Bool) (A : Option Addr) (c : Nat) (l : List (S58)) (w : World)
    (eg : ∀ args w, (callFunc g args).run Try.prog w = .ok (.enter g args) w)
    (hr : Kd.C k58 w A l.length l) (hp : PredL g lb enc58 p l w) :
    Calls Try.prog 71 #[.slice A l.length c, .func (.func g) #[] lb] w fun e w' => e = .returned (.int .i64 (idxP p l)) ∧ Below w.heap.size w w' := by
  have HR0 := Aside0.mk hr
  have HP := Aside0.mk hp
  have HL := Aside0.mk hr.2.1
  clear hr hp
  go_enter Try.func71, Try.ntmps71
  go_wp2
  go_loopg [8] l.length (fun kq v8 w' => ∃ i : Nat, v8 = .int .i64 i ∧ Aside0 (i + kq = l.length) ∧ Aside0 (∀ j (hj : j < l.length), j < i → p l[j] = false) ∧ Aside0 (Below w.heap.size w w'))
  case atStart => exact ⟨0, rfl, ⟨by omega⟩, ⟨fun j hj h => absurd h (by omega)⟩, ⟨Below.refl _ _⟩⟩
  case round =>
    obtain ⟨i, rfl, HI, HN, HB⟩ := hrel
    cases gk with
    | zero =>
      have hi : i = l.length := by have := HI.out; omega
      have hlt : decide (i < l.length) = false := by rw [hi]; simp
      go_wp2
      go_ret
      refine ⟨?_, HB.out⟩
      rw [idxP_miss p l (fun j hj => HN.out j hj (by omega))]
      rfl
    | succ k1 =>
      have hi : i < l.length := by have := HI.out; omega
      have hlt : decide (i < l.length) = true := by simp [hi]
      have hC := Kd.C_below HR0.out HB.out
      obtain ⟨ad, e0, hc0, hc1, hc2, hc3⟩ := at_T58 hC (i : Int) (by omega) (by omega)
      cases e0
      rw [Int.toNat_natCast] at hc0
      rw [Int.toNat_natCast] at hc1
      rw [Int.toNat_natCast] at hc2
      rw [Int.toNat_natCast] at hc3
      have hpp := Lib.hid (HP.out wr (rd_T58 l (i : Int)) (by rw [rd_T58_nat l i hi]; exact List.getElem_mem hi) HB.out)
      have hle := HL.out
      clear hC
      go_wp2_with (go_at_fn g; refine (hpp.out).mono ?_; rintro e w' ⟨rfl, hb⟩)
      · have hpx : p (rd_T58 l (i : Int)) = true := by assumption
        have hpi : p l[i] = true := by rwa [rd_T58_nat l i hi] at hpx
        go_ret
        exact ⟨by rw [idxP_hit p l i hi (fun j hj h => HN.out j hj h) hpi]; rfl, HB.out.trans (hb.mono HB.out.size)⟩
      · have hpx : p (rd_T58 l (i : Int)) = false := by assumption
        have hpi : p l[i] = false := by rwa [rd_T58_nat l i hi] at hpx
        go_roundg k1
        case rel => exact ⟨i + 1, by go_num, ⟨by have := HI.out; omega⟩, ⟨fun j hj h => by
          by_cases e : j = i
          · subst e; exact hpi
          · exact HN.out j hj (by omega)⟩, ⟨HB.out.trans (hb.mono HB.out.size)⟩⟩
        case measure => omega

set_option maxHeartbeats 400000 in
set_option maxRecDepth 100000 in
theorem ContainsFunc50L (g : Nat) (lb : Array Value) (p : S58 → Bool) (A : Option Addr) (c : Nat) (l : List (S58)) (w : World)
    (eg : ∀ args w, (callFunc g args).run Try.prog w = .ok (.enter g args) w)
    (hr : Kd.C k58 w A l.length l) (hp : PredL g lb enc58 p l w) :
    Calls Try.prog 50 #[.slice A l.length c, .func (.func g) #[] lb] w fun e w' => e = .returned (.bool (l.any p)) ∧ Below w.heap.size w w' := by
  have H := Lib.hid (IndexFunc71L g lb p A c l w eg hr hp)
  have HQ := Lib.hid (idxP_any p l)
  clear hr hp eg
  go_enter Try.func50, Try.ntmps50
  go_wp2_with (go_at_call 71; refine (H.out).mono ?_; rintro e w' ⟨rfl, hb⟩)
  go_ret
  exact ⟨by rw [← HQ.out]; rfl, hb⟩

def badT (t : Int) : Bool := decide (t ≠ 1048576) && !withinB 0 100000 [t]
def lateM (gv : List Int) (m : S58) : Bool := (soonF (gv.getD m.f0.toNat 0) m).2 && decide ((soonF (gv.getD m.f0.toNat 0) m).1 < gv.getD m.f1.toNat 0)
def checkArrF (n : Int) (l : List S58) (sv st : Int) (gv : List Int) : Int :=
  if openE n l sv st [] ≠ 0 then openE n l sv st [] else if (gv.length : Int) ≠ n then 15 else if gv.any badT then 3 else if st < gv.getD sv.toNat 0 ∨ l.any (lateM gv) then 14 else 0

set_option maxHeartbeats 400000 in
set_option maxRecDepth 100000 in
theorem badT_lit (w : World) : PredB 59 #[] (Value.int .i64) badT w := by
  intro W x hb
  show Calls Try.prog 59 #[.int .i64 x] W _
  by_cases hx : x = 1048576
  · have hq : (x != 1048576) = false := by simp [hx]
    have F := Lib.hid (show badT x = false by simp [badT, hx])
    clear hx
    go_enter Try.func59, Try.ntmps59
    go_wp2
    go_ret
    exact ⟨by rw [F.out]; rfl, Below.refl _ _⟩
  · have hq : (x != 1048576) = true := by simp [hx]
    have F := Lib.hid (show badT x = !withinB 0 100000 [x] by simp [badT, hx])
    have HC := Lib.hid (within_one 0 100000 x W.heap.size 1 (W.alloc (.cells #[.int .i64 x] 2)) ((Blk.new W #[.int .i64 x] 2).cell 0))
    clear hx
    go_enter Try.func59, Try.ntmps59
    go_wp2_with (go_at_call 49; refine (HC.out).mono ?_; rintro e w1 ⟨rfl, hb1⟩; have HB1 := Lib.hid hb1; clear hb1)
    go_ret
    exact ⟨by rw [F.out]; rfl, (below_alloc (Below.refl W.heap.size W) _).trans (HB1.out.mono (by simp))⟩

set_option maxHeartbeats 1000000 in
set_option maxRecDepth 100000 in
theorem late_lit (w : World) (b : Nat) (Ag : Option Addr) (cg : Nat) (gv : List Int) (l : List S58) (h1 : b < w.heap.size) (c1 : w.cell? ⟨b, 0, none⟩ = some (.slice Ag gv.length cg)) (hg : Kd.C (Kd.int .i64) w Ag gv.length gv)
    (hl : ∀ m ∈ l, 0 ≤ m.f0 ∧ m.f0 < gv.length ∧ 0 ≤ m.f1 ∧ m.f1 < gv.length) : PredL 60 #[.pointer (some ⟨b, 0, none⟩)] enc58 (lateM gv) l w := by
  intro W m hm hb
  have d1 : W.cell? ⟨b, 0, none⟩ = some (.slice Ag gv.length cg) := (hb.cell (p := ⟨b, 0, none⟩) h1).trans c1
  have hC := Kd.C_below hg hb
  obtain ⟨h00, h01, h10, h11⟩ := hl m hm
  have hgm := hg.2.1
  clear c1 hg hb hl hm h1
  have e58 : enc58 m = .agg #[.int .i64 m.f0, .int .i64 m.f1, .int .i64 m.f2.f0, .int .i64 m.f2.f1] := rfl
  show Calls Try.prog 60 #[enc58 m, .pointer (some ⟨b, 0, none⟩)] W _
  rw [e58]
  have hb0 : Below W.heap.size W (W.alloc (.cells #[.int .i64 m.f0, .int .i64 m.f1, .int .i64 m.f2.f0, .int .i64 m.f2.f1] 58)) := below_alloc (Below.refl _ _) _
  have d2 : (W.alloc (.cells #[.int .i64 m.f0, .int .i64 m.f1, .int .i64 m.f2.f0, .int .i64 m.f2.f1] 58)).cell? ⟨b, 0, none⟩ = some (.slice Ag gv.length cg) := cell_in hb0 d1
  have hC2 := Kd.C_below hC hb0
  have hbk := Blk.new W #[.int .i64 m.f0, .int .i64 m.f1, .int .i64 m.f2.f0, .int .i64 m.f2.f1] 58
  obtain ⟨ad0, ee0, hx0⟩ := Kd.at_int hC2 m.f0 h00 h01
  obtain ⟨ad1, ee1, hx1⟩ := Kd.at_int hC2 m.f1 h10 h11
  obtain rfl : ad0 = ad1 := by rw [ee0] at ee1; injection ee1
  cases ee0
  have r0 : rd gv m.f0 = gv.getD m.f0.toNat 0 := rfl
  have r1 : rd gv m.f1 = gv.getD m.f1.toNat 0 := rfl
  have HLM := Lib.hid (show lateM gv m = (decide (rd gv m.f0 ≤ m.f2.f1) && decide (max (rd gv m.f0) m.f2.f0 < rd gv m.f1)) by rfl)
  clear r0 r1 ee1 hC hC2 d1
  generalize rd gv m.f0 = t0 at *
  generalize rd gv m.f1 = t1 at *
  have HCS := Lib.hid (fun (X : World) => soonest_calls t0 m X)
  rw [e58] at HCS
  have HB0 := Lib.hid hb0
  go_enter Try.func60, Try.ntmps60
  go_upto_region 1 with (fail)
  have hbm : W.heap.size < (W.alloc (.cells #[.int .i64 m.f0, .int .i64 m.f1, .int .i64 m.f2.f0, .int .i64 m.f2.f1] 58)).heap.size := by simp
  generalize W.alloc (.cells #[.int .i64 m.f0, .int .i64 m.f1, .int .i64 m.f2.f0, .int .i64 m.f2.f1] 58) = W1 at *
  clear hb0 e58
  have hi0 : m.f0.toNat < gv.length := by omega
  have hi1 : m.f1.toNat < gv.length := by omega
  have gd := cell_regrown d2
  have gx0 := cell_regrown hx0
  have gx1 := cell_regrown hx1
  have g0 := cell_regrown (show W1.cell? ⟨W.heap.size, 0, none⟩ = some (.int .i64 m.f0) from hbk.cell 0)
  have g1 := cell_regrown (show W1.cell? ⟨W.heap.size, 1, none⟩ = some (.int .i64 m.f1) from hbk.cell 1)
  have g2 := cell_regrown (show W1.cell? ⟨W.heap.size, 2, none⟩ = some (.int .i64 m.f2.f0) from hbk.cell 2)
  have g3 := cell_regrown (show W1.cell? ⟨W.heap.size, 3, none⟩ = some (.int .i64 m.f2.f1) from hbk.cell 3)
  cases hok : decide (t0 ≤ m.f2.f1) with
  | true =>
    rw [hok] at HCS HLM
    clear hok
    refine wp_region_quiet_below (by kernel_rfl) (by kernel_rfl) ?_
    repeat (go_big_quiet_step ((go_at_call 55; exact Calls.regrown_of (HCS.out _))))
    refine wpQuiet_nil ?_
    intro _ hw'
    obtain ⟨⟨dq, osq⟩, hw''⟩ := hw'
    subst hw''
    have q0 := gd dq osq
    have q1 := gx1 dq osq
    have q2 := g1 dq osq
    clear gd gx0 gx1 g0 g1 g2 g3
    go_wp2
    go_ret
    exact ⟨by rw [HLM.out]; rfl, below_then HB0.out HB0.out.size (below_regrown W1 dq osq)⟩
  | false =>
    rw [hok] at HCS HLM
    clear hok
    refine wp_region_quiet_below (by kernel_rfl) (by kernel_rfl) ?_
    repeat (go_big_quiet_step ((go_at_call 55; exact Calls.regrown_of (HCS.out _))))
    refine wpQuiet_nil ?_
    intro _ hw'
    obtain ⟨⟨dq, osq⟩, hw''⟩ := hw'
    subst hw''
    clear gd gx0 gx1 g0 g1 g2 g3
    go_wp2
    go_ret
    exact ⟨by rw [HLM.out]; rfl, below_then HB0.out HB0.out.size (below_regrown W1 dq osq)⟩

set_option maxHeartbeats 4000000 in
set_option maxRecDepth 100000 in
theorem checkArrivals_calls (n : Int) (A : Option Addr) (c : Nat) (l : List S58) (sv st : Int) (Ag : Option Addr) (cg : Nat) (gv : List Int) (w : World) (hr : Kd.C k58 w A l.length l) (hg : Kd.C (Kd.int .i64) w Ag gv.length gv) :
    Calls Try.prog 20 #[.agg #[.int .i64 n, .slice A l.length c], .agg #[.int .i64 sv, .int .i64 st], .slice Ag gv.length cg] w fun e w' => e = .returned (.int .i64 (checkArrF n l sv st gv)) ∧ Below w.heap.size w w' := by
  have hbx := boxes3 w (.cells #[.int .i64 n, .slice A l.length c] 24) (.cells #[.int .i64 sv, .int .i64 st] 26) (.cells #[.slice Ag gv.length cg] 28)
  have hrx := Kd.C_below hr hbx
  have HR := Lib.hid hr
  have HG := Lib.hid hg
  have hlm := hr.2.1
  have hgm := hg.2.1
  clear hr hg
  rcases Classical.em (openE n l sv st [] = 0) with hE | hE
  · have HO := Lib.hid (open_ok n A c l sv st none 0 [] (((w.alloc (.cells #[.int .i64 n, .slice A l.length c] 24)).alloc (.cells #[.int .i64 sv, .int .i64 st] 26)).alloc (.cells #[.slice Ag gv.length cg] 28)) hrx (C_nil _) hE)
    have HE := Lib.hid hE
    have HX := Lib.hid hbx
    have B0 : Blk (((w.alloc (.cells #[.int .i64 n, .slice A l.length c] 24)).alloc (.cells #[.int .i64 sv, .int .i64 st] 26)).alloc (.cells #[.slice Ag gv.length cg] 28)) w.heap.size 24 #[.int .i64 n, .slice A l.length c] := ((Blk.new w _ 24).alloc _).alloc _
    have B01 : Blk (((w.alloc (.cells #[.int .i64 n, .slice A l.length c] 24)).alloc (.cells #[.int .i64 sv, .int .i64 st] 26)).alloc (.cells #[.slice Ag gv.length cg] 28)) (w.heap.size + 1) 26 #[.int .i64 sv, .int .i64 st] := by
      have := (Blk.new (w.alloc (.cells #[.int .i64 n, .slice A l.length c] 24)) #[.int .i64 sv, .int .i64 st] 26).alloc (.cells #[.slice Ag gv.length cg] 28)
      simpa only [World.size_alloc] using this
    have B02 : Blk (((w.alloc (.cells #[.int .i64 n, .slice A l.length c] 24)).alloc (.cells #[.int .i64 sv, .int .i64 st] 26)).alloc (.cells #[.slice Ag gv.length cg] 28)) (w.heap.size + 1 + 1) 28 #[.slice Ag gv.length cg] := by
      have := Blk.new ((w.alloc (.cells #[.int .i64 n, .slice A l.length c] 24)).alloc (.cells #[.int .i64 sv, .int .i64 st] 26)) #[.slice Ag gv.length cg] 28
      simpa only [World.size_alloc] using this
    have hsz : (((w.alloc (.cells #[.int .i64 n, .slice A l.length c] 24)).alloc (.cells #[.int .i64 sv, .int .i64 st] 26)).alloc (.cells #[.slice Ag gv.length cg] 28)).heap.size = w.heap.size + 3 := by simp
    have HB0 := Lib.hid B0
    have HB01 := Lib.hid B01
    have HB02 := Lib.hid B02
    have HSZ := Lib.hid hsz
    clear hE hbx hrx B0 B01 B02 hsz
    go_enter Try.func20, Try.ntmps20
    go_upto_region 4 with (go_at_call 52; refine (HO.out).mono ?_; rintro e w' ⟨w1, hb1, rfl, rfl⟩; have HB1 := Lib.hid hb1; clear hb1)
    obtain ⟨hy, hsv, hsv2, hst, hst2, _⟩ := openOK HE.out
    have hsz1 : w.heap.size + 3 ≤ w1.heap.size := by have := HB1.out.size; rw [HSZ.out] at this; exact this
    have hb2 : Below (w.heap.size + 3) (((w.alloc (.cells #[.int .i64 n, .slice A l.length c] 24)).alloc (.cells #[.int .i64 sv, .int .i64 st] 26)).alloc (.cells #[.slice Ag gv.length cg] 28)) (w1.alloc (.cells (searchCells n (.slice A l.length c) sv st) 96)) := by rw [← HSZ.out]; exact HB1.out.alloc HB1.out.size _
    have B1 := HB0.out.below hb2 (by omega)
    have B11 := HB01.out.below hb2 (by omega)
    have B12 := HB02.out.below hb2 (by omega)
    have hB : Below w.heap.size w (w1.alloc (.cells (searchCells n (.slice A l.length c) sv st) 96)) := HX.out.trans (hb2.mono (by omega))
    have hlt1 : w1.heap.size < (w1.alloc (.cells (searchCells n (.slice A l.length c) sv st) 96)).heap.size := by simp
    generalize w1.alloc (.cells (searchCells n (.slice A l.length c) sv st) 96) = W1 at *
    have HF0 := Lib.hid (show checkArrF n l sv st gv = if (gv.length : Int) ≠ n then 15 else if gv.any badT then 3 else if st < gv.getD sv.toNat 0 ∨ l.any (lateM gv) then 14 else 0 by unfold checkArrF; rw [if_neg (by rw [HE.out]; simp)])
    have HYD := Lib.hid hy
    have HBB := Lib.hid hB
    have HB1 := Lib.hid B1
    have HB11 := Lib.hid B11
    have HB12 := Lib.hid B12
    have c0 : W1.cell? ⟨w.heap.size, 0, none⟩ = some (.int .i64 n) := B1.cell 0
    have c1 : W1.cell? ⟨w.heap.size, 1, none⟩ = some (.slice A l.length c) := B1.cell 1
    have c2 : W1.cell? ⟨w.heap.size + 1 + 1, 0, none⟩ = some (.slice Ag gv.length cg) := B12.cell 0
    clear B1 B11 B12 hB hb2 hy
    by_cases hln : (gv.length : Int) = n
    · have hq : ((gv.length : Int) != n) = false := by simp [hln]
      have HLN := Lib.hid hln
      have HF1 := Lib.hid (HF0.out.trans (if_neg (fun h => h hln)))
      have hCF := ContainsFunc58 59 #[] badT Ag cg gv W1 (enters_of Try.func59 (by kernel_rfl) rfl) (Kd.C_below HG.out HBB.out) (badT_lit W1)
      clear hln HF0
      cases hany : gv.any badT with
      | true =>
        rw [hany] at hCF
        have HCF := Lib.hid hCF
        have HF := Lib.hid (HF1.out.trans (if_pos hany))
        clear hany hCF
        go_wp2_with (go_at_call 58; refine (HCF.out).mono ?_; rintro e W2 ⟨rfl, hb4⟩; have HB5 := Lib.hid hb4; clear hb4)
        go_ret
        exact ⟨by rw [HF.out]; rfl, below_then HBB.out HBB.out.size HB5.out⟩
      | false =>
        rw [hany] at hCF
        have HCF := Lib.hid hCF
        have HF2 := Lib.hid (HF1.out.trans (if_neg (by rw [hany]; simp)))
        clear hany hCF HF1
        go_upto_region 9 with (go_at_call 58; refine (HCF.out).mono ?_; rintro e W2 ⟨rfl, hb4⟩; have HB5 := Lib.hid hb4; clear hb4)
        have hw2 := Lib.hid (below_then HBB.out HBB.out.size HB5.out)
        have hb24 := HB1.out.below HB5.out HB1.out.lt
        have hb26 := HB11.out.below HB5.out HB11.out.lt
        have hb28 := HB12.out.below HB5.out HB12.out.lt
        have hCg := Kd.C_below HG.out hw2.out
        have hln := HLN.out
        obtain ⟨ad, ee, hx⟩ := Kd.at_int hCg sv hsv (by omega)
        cases ee
        have hrd : rd gv sv = gv.getD sv.toNat 0 := rfl
        rw [hrd] at hx
        obtain ⟨tv, htv⟩ : ∃ tv, gv.getD sv.toNat 0 = tv := ⟨_, rfl⟩
        rw [htv] at hx
        have HTV := Lib.hid htv
        have hsl : sv.toNat < gv.length := by omega
        have HL := Lib.hid (fun (d : Nat) (os : Array Obj) => ContainsFunc50L 60 #[.pointer (some ⟨w.heap.size + 1 + 1, 0, none⟩)] (lateM gv) A c l (Go.«Sort».grow (redrawn W2 d) os) (enters_of Try.func60 (by kernel_rfl) rfl) (Kd.C_below (Kd.C_below HR.out hw2.out) (below_regrown W2 d os))
          (late_lit _ (w.heap.size + 1 + 1) _ cg gv l (Nat.lt_of_lt_of_le hb28.lt (below_regrown W2 d os).size) ((hb28.below (below_regrown W2 d os) hb28.lt).cell 0) (Kd.C_below hCg (below_regrown W2 d os)) (fun m hm => by have := HYD.out.mv m hm; omega)))
        have gy := cell_regrown (show W2.cell? ⟨w.heap.size, 1, none⟩ = some (.slice A l.length c) from hb24.cell 1)
        have gs0 := cell_regrown (show W2.cell? ⟨w.heap.size + 1, 0, none⟩ = some (.int .i64 sv) from hb26.cell 0)
        have gs1 := cell_regrown (show W2.cell? ⟨w.heap.size + 1, 1, none⟩ = some (.int .i64 st) from hb26.cell 1)
        have gl := cell_regrown (show W2.cell? ⟨w.heap.size + 1 + 1, 0, none⟩ = some (.slice (some ad) gv.length cg) from hb28.cell 0)
        have gx := cell_regrown hx
        clear hb24 hb26 hb28 hCg hrd htv hx c0 c1 c2 HCF HB1 HB11 HB12 hln
        by_cases hgt : st < tv
        · have hd : decide (tv > st) = true := decide_eq_true hgt
          have HF := Lib.hid (HF2.out.trans (if_pos (.inl (by rw [HTV.out]; exact hgt))))
          clear hgt
          refine wp_region_quiet_below (by kernel_rfl) (by kernel_rfl) ?_
          repeat (go_big_quiet_step (fail))
          refine wpQuiet_nil ?_
          intro _ hw'
          obtain ⟨⟨dq, osq⟩, hw''⟩ := hw'
          subst hw''
          clear gy gs0 gs1 gl gx
          go_wp2
          go_ret
          exact ⟨by rw [HF.out]; rfl, below_then hw2.out hw2.out.size (below_regrown W2 dq osq)⟩
        · have hd : decide (tv > st) = false := decide_eq_false hgt
          cases hany : l.any (lateM gv) with
          | true =>
            rw [hany] at HL
            have HF := Lib.hid (HF2.out.trans (if_pos (.inr hany)))
            clear hgt hany
            refine wp_region_quiet_below (by kernel_rfl) (by kernel_rfl) ?_
            repeat (go_big_quiet_step ((go_at_call 50; exact Calls.regrown_of (HL.out _ _))))
            refine wpQuiet_nil ?_
            intro _ hw'
            obtain ⟨⟨dq, osq⟩, hw''⟩ := hw'
            subst hw''
            clear gy gs0 gs1 gl gx
            go_wp2
            go_ret
            exact ⟨by rw [HF.out]; rfl, below_then hw2.out hw2.out.size (below_regrown W2 dq osq)⟩
          | false =>
            rw [hany] at HL
            have HF := Lib.hid (HF2.out.trans (if_neg (by rw [HTV.out, hany]; simp; omega)))
            clear hgt hany
            refine wp_region_quiet_below (by kernel_rfl) (by kernel_rfl) ?_
            repeat (go_big_quiet_step ((go_at_call 50; exact Calls.regrown_of (HL.out _ _))))
            refine wpQuiet_nil ?_
            intro _ hw'
            obtain ⟨⟨dq, osq⟩, hw''⟩ := hw'
            subst hw''
            clear gy gs0 gs1 gl gx
            go_wp2
            go_ret
            exact ⟨by rw [HF.out]; rfl, below_then hw2.out hw2.out.size (below_regrown W2 dq osq)⟩
    · have hq : ((gv.length : Int) != n) = true := by simp [hln]
      have HF := Lib.hid (HF0.out.trans (if_pos hln))
      clear hln
      go_wp2_with fail
      go_ret
      exact ⟨by rw [HF.out]; rfl, HBB.out⟩
  · have HO := Lib.hid (open_bad n A c l sv st none 0 [] (((w.alloc (.cells #[.int .i64 n, .slice A l.length c] 24)).alloc (.cells #[.int .i64 sv, .int .i64 st] 26)).alloc (.cells #[.slice Ag gv.length cg] 28)) hrx (C_nil _) hE)
    have HF := Lib.hid (show checkArrF n l sv st gv = openE n l sv st [] by unfold checkArrF; rw [if_pos hE])
    obtain ⟨ev, hev⟩ : ∃ ev, openE n l sv st [] = ev := ⟨_, rfl⟩
    rw [hev] at HO hE HF
    have hne : (ev != 0) = true := by simp [hE]
    clear hev hE hbx hrx
    go_enter Try.func20, Try.ntmps20
    go_wp2_with (go_at_call 52; refine (HO.out).mono ?_; rintro e w' ⟨rfl, hb1⟩; have HB1 := Lib.hid hb1; clear hb1)
    go_ret
    exact ⟨by rw [HF.out]; rfl, later3 HB1.out⟩
end Go.Proofs.Ytfhmepdbbhcncaa.P

namespace Go.Proofs.Ytfhmepdbbhcncaa.P
open Go.RowKit Go.Shelf Go.Proofs.YtfhmepdbbhcncaaW.PrintWords Go.Proofs.YtfhmepdbbhcncaaW.PrintLast Go.Proofs.YtfhmepdbbhcncaaW.PrintMore Go.Proofs.YtfhmepdbbhcncaaM Go.Proofs.YtfhmepdbbhcncaaR
set_option linter.unusedVariables false
set_option linter.unusedSimpArgs false

def lays189_ren : Ren where
  f := fun x => match x with | 189 => 67 | 125 => 83 | 257 => 82 | 128 => 94 | 129 => 95 | 294 => 85 | 295 => 86 | 296 => 87 | 297 => 88 | 298 => 89 | 299 => 90 | 216 => 91 | 300 => 92 | 301 => 93 | 328 => 96 | 329 => 97 | 330 => 98 | 331 => 99 | 332 => 100 | 215 => 101 | 343 => 102 | n => n
  t := fun x => match x with | 28 => 27 | 3 => 3 | 46 => 114 | 0 => 0 | 51 => 60 | 53 => 65 | 4 => 4 | 183 => 118 | 182 => 117 | 131 => 123 | 5 => 5 | 9 => 9 | 218 => 127 | 222 => 131 | 228 => 133 | 229 => 134 | n => n
  g := fun x => x
theorem lays189 : Lays.n189 Try.prog lays189_ren where
  mixed := rfl
  f125 := Try.func83.trans rfl
  f128 := Try.func94.trans rfl
  f129 := Try.func95.trans rfl
  f189 := Try.func67.trans rfl
  f215 := Try.func101.trans rfl
  f216 := Try.func91.trans rfl
  f257 := Try.func82.trans rfl
  f294 := Try.func85.trans rfl
  f295 := Try.func86.trans rfl
  f296 := Try.func87.trans rfl
  f297 := Try.func88.trans rfl
  f298 := Try.func89.trans rfl
  f299 := Try.func90.trans rfl
  f300 := Try.func92.trans rfl
  f301 := Try.func93.trans rfl
  f328 := Try.func96.trans rfl
  f329 := Try.func97.trans rfl
  f330 := Try.func98.trans rfl
  f331 := Try.func99.trans rfl
  f332 := Try.func100.trans rfl
  f343 := Try.func102.trans rfl
  t0 := Try.underlying0
  a0 := Try.isAgg0
  z0 := Try.sizeOf0
  v0 := Try.zeroValue0
  t3 := Try.underlying3
  a3 := Try.isAgg3
  z3 := Try.sizeOf3
  v3 := Try.zeroValue3
  t4 := Try.underlying4
  a4 := Try.isAgg4
  z4 := Try.sizeOf4
  v4 := Try.zeroValue4
  t5 := Try.underlying5
  a5 := Try.isAgg5
  z5 := Try.sizeOf5
  v5 := Try.zeroValue5
  t9 := Try.underlying9
  a9 := Try.isAgg9
  z9 := Try.sizeOf9
  v9 := Try.zeroValue9
  t28 := Try.underlying27
  a28 := Try.isAgg27
  z28 := Try.sizeOf27
  v28 := Try.zeroValue27
  t46 := Try.underlying114
  a46 := Try.isAgg114
  z46 := Try.sizeOf114
  v46 := Try.zeroValue114
  t51 := Try.underlying60
  a51 := Try.isAgg60
  z51 := Try.sizeOf60
  v51 := Try.zeroValue60
  t53 := Try.underlying65
  a53 := Try.isAgg65
  z53 := Try.sizeOf65
  v53 := Try.zeroValue65
  t131 := Try.underlying123
  a131 := Try.isAgg123
  z131 := Try.sizeOf123
  v131 := Try.zeroValue123
  t182 := Try.underlying117
  a182 := Try.isAgg117
  z182 := Try.sizeOf117
  v182 := Try.zeroValue117
  t183 := Try.underlying118
  a183 := Try.isAgg118
  z183 := Try.sizeOf118
  v183 := Try.zeroValue118
  t218 := Try.underlying127
  a218 := Try.isAgg127
  z218 := Try.sizeOf127
  v218 := Try.zeroValue127
  t222 := Try.underlying131
  a222 := Try.isAgg131
  z222 := Try.sizeOf131
  v222 := Try.zeroValue131
  t228 := Try.underlying133
  a228 := Try.isAgg133
  z228 := Try.sizeOf133
  v228 := Try.zeroValue133
  t229 := Try.underlying134
  a229 := Try.isAgg134
  z229 := Try.sizeOf134
  v229 := Try.zeroValue134

/-- slices.Sort at a row of one's own. -/
theorem sort67 (blk cap : Nat) (zs : List Int) (w : World) (hr : RowC w blk 3 cap zs) (hn : 0 < zs.length) (hsz : zs.length < 1000000) :
    Calls Try.prog 67 #[.slice (some ⟨blk, 0, none⟩) zs.length cap] w fun e w' => e = .returned (.tuple #[]) ∧ RowC w' blk 3 cap (zs.mergeSort fun x y => decide (x ≤ y)) ∧ w.grownBy w' (some blk) := by
  have hlt := hr.lt
  have ho := hr.own (base := blk) (Nat.le_refl _)
  obtain ⟨h1, ⟨h2, h3⟩ | ⟨g, cap', cur, hv, hg, hk, hle, hcm, hs, ht⟩⟩ := ho
  · omega
  · injection hv with hv1 hv2 hv3
    injection hv1 with hv1
    injection hv1 with hv1
    subst hv1 hv3
    have hml : (zs.mergeSort fun x y => decide (x ≤ y)).length = zs.length := List.length_mergeSort _
    refine (Any.slices_Sort_int lays189 blk 0 cap zs w (holds_of_blockI hk (by rw [Nat.mul_one] at ht; exact ht)) hlt (by omega)).mono ?_
    rintro e w' ⟨rfl, n, os, rfl⟩
    refine ⟨rfl, ?_, grownBy_sortedI _⟩
    have h := ownsRow_sortedI (base := blk) (n := n) (os := os) (ss := zs) hml (Nat.le_refl _) hk hr.le hcm hs
    obtain ⟨b', cap2, e, _, _, h4⟩ := RowC.of_own h hn
    injection e with e1 e2 e3
    injection e1 with e1
    injection e1 with e1
    subst e1 e3
    exact h4
end Go.Proofs.Ytfhmepdbbhcncaa.P

namespace Go.Proofs.Ytfhmepdbbhcncaa.P
open Go.RowKit Go.Shelf Go.Proofs.YtfhmepdbbhcncaaW.PrintWords Go.Proofs.YtfhmepdbbhcncaaW.PrintLast Go.Proofs.YtfhmepdbbhcncaaW.PrintMore Go.Proofs.YtfhmepdbbhcncaaM Go.Proofs.YtfhmepdbbhcncaaR
set_option linter.unusedVariables false
set_option linter.unusedSimpArgs false

theorem wayL_mem (l : List S58) (home : Int) : ∀ (k : Nat) (f : Int → Option Int) (a : Int) (acc r : List Int), wayL l home k f a acc = some r → (∀ i ∈ acc, 0 ≤ i ∧ i < (l.length : Int)) → ∀ i ∈ r, 0 ≤ i ∧ i < (l.length : Int)
  | 0, _, _, _, _, h, _ => by simp [wayL] at h
  | k + 1, f, a, acc, r, h, ha => by
    rw [wayL] at h
    split at h
    · injection h with h; subst h; exact ha
    · split at h
      · rename_i hi
        refine wayL_mem l home k _ _ _ _ h (fun j hj => ?_)
        rcases List.mem_append.1 hj with h1 | h1
        · exact ha j h1
        · rw [List.mem_singleton.1 h1]; exact hi
      · cases h
def notToF (v : Int) (m : S58) : Bool := m.f1 != v
/-- the vessels along the way without which there is no trail -/
def passT (n : Int) (l : List S58) (sv st v : Int) (rr : List Int) : Nat → List Int
  | 0 => [sv]
  | k + 1 => if (runC soonF (notToF (rd_T58 l (rr.getD k 0)).f1) n l sv st).1.getD v.toNat 0 = 1048576 then passT n l sv st v rr k ++ [(rd_T58 l (rr.getD k 0)).f1] else passT n l sv st v rr k
theorem passT_len (n : Int) (l : List S58) (sv st v : Int) (rr : List Int) : ∀ k, 0 < (passT n l sv st v rr k).length ∧ (passT n l sv st v rr k).length ≤ k + 1
  | 0 => by simp [passT]
  | k + 1 => by
    have := passT_len n l sv st v rr k
    rw [passT]; split <;> (try simp) <;> omega
def passedF (n : Int) (l : List S58) (sv st v : Int) : Option (List Int × Int) :=
  if openE n l sv st [v] ≠ 0 then some ([], openE n l sv st [v]) else if (runC soonF (fun _ => true) n l sv st).1.getD v.toNat 0 = 1048576 then some ([], 5) else
    match wayL l sv 1000 (runC soonF (fun _ => true) n l sv st).2 v [] with
    | some r => some ((passT n l sv st v r.reverse r.reverse.length).mergeSort (fun x y => decide (x ≤ y)), 0)
    | none => none

/-- Between the rounds of Passed. -/
structure PassS (w W : World) (B : Nat) (n : Int) (sl : Value) (sv st : Int) (base : Nat) (vo : Value) (rr : List Int) (v : Value) (out : List Int) : Prop where
  S : ∃ come m, SAt W B n sl sv st come m
  Y : Blk W w.heap.size 24 #[.int .i64 n, sl]
  Wy : OutV W base vo rr
  O : ∃ b cap, v = .slice (some ⟨b, 0, none⟩) out.length cap ∧ base ≤ b ∧ RowC W b 3 cap out ∧ some b ≠ vo.ownBlock
  g : Below w.heap.size w W
  hb : base ≤ W.heap.size
theorem PassS.kept {w W W' : World} {B : Nat} {n : Int} {sl : Value} {sv st : Int} {base : Nat} {vo : Value} {rr : List Int} {v : Value} {out : List Int} (h : PassS w W B n sl sv st base vo rr v out) (hg : W.grownBy W' none) : PassS w W' B n sl sv st base vo rr v out := by
  obtain ⟨come, m, hS⟩ := h.S
  obtain ⟨b, cap, e, h1, h2, h3⟩ := h.O
  exact ⟨⟨come, m, hS.kept hg (by simp)⟩, h.Y.kept hg (by simp), h.Wy.kept hg (fun r e => by cases e), ⟨b, cap, e, h1, h2.kept hg (by simp), h3⟩, below_grown h.g hg (fun r e => by cases e), Nat.le_trans h.hb hg.size⟩
theorem PassS.ran {w W W' : World} {B : Nat} {n : Int} {sl : Value} {sv st : Int} {base : Nat} {vo : Value} {rr : List Int} {v : Value} {out : List Int} {come : List Int} {m : Value} (h : PassS w W B n sl sv st base vo rr v out) (hB : B < base) (hw : w.heap.size < B) (hS : SAt W' B n sl sv st come m) (hg : W.grownBy W' (some B)) : PassS w W' B n sl sv st base vo rr v out := by
  obtain ⟨b, cap, e, h1, h2, h3⟩ := h.O
  exact ⟨⟨come, m, hS⟩, h.Y.kept hg (by simp; omega), h.Wy.kept hg (fun r e => by cases e; exact hB), ⟨b, cap, e, h1, h2.kept hg (by simp; omega), h3⟩, below_grown h.g hg (fun r e => by cases e; omega), Nat.le_trans h.hb hg.size⟩
theorem OutV.ownlt {W : World} {base : Nat} {v : Value} {xs : List Int} (h : OutV W base v xs) : ∀ k, v.ownBlock = some k → k < W.heap.size := by
  rcases h with ⟨_, rfl⟩ | ⟨h, b, cap, rfl, hb', hrow⟩
  · intro k e; simp [Value.ownBlock] at e
  · intro k e; simp [Value.ownBlock] at e; subst e; exact hrow.lt
theorem OutV.keptNe {W W' : World} {base : Nat} {v : Value} {xs : List Int} {row : Option Nat} (h : OutV W base v xs) (hg : W.grownBy W' row) (hr : row ≠ v.ownBlock ∨ row = none) : OutV W' base v xs := by
  rcases h with h | ⟨h, b, cap, rfl, hb', hrow⟩
  · exact .inl h
  · refine .inr ⟨h, b, cap, rfl, hb', hrow.kept hg (fun e => ?_)⟩
    rcases hr with h1 | h1
    · exact h1 (by rw [← e]; rfl)
    · rw [h1] at e; cases e
theorem OutV.ownge {W : World} {base : Nat} {v : Value} {xs : List Int} (h : OutV W base v xs) : ∀ k, v.ownBlock = some k → base ≤ k := by
  rcases h with ⟨_, rfl⟩ | ⟨h, b, cap, rfl, hb', hrow⟩
  · intro k e; simp [Value.ownBlock] at e
  · intro k e; simp [Value.ownBlock] at e; subst e; exact hb'
theorem PassS.grew {w W W' : World} {B : Nat} {n : Int} {sl : Value} {sv st : Int} {base : Nat} {vo : Value} {rr : List Int} {v v1 : Value} {out : List Int} {x : Int} (h : PassS w W B n sl sv st base vo rr v out) (hB : B < base) (hw : w.heap.size < B)
    (ho : Kd.R (Kd.int .i64) 3 W' base (fun k => some k ≠ vo.ownBlock) v1 (out ++ [x])) (hg : W.grownBy W' v.ownBlock) : PassS w W' B n sl sv st base vo rr v1 (out ++ [x]) := by
  obtain ⟨come, m, hS⟩ := h.S
  obtain ⟨b, cap, rfl, h1, h2, h3⟩ := h.O
  have hg' : W.grownBy W' (some b) := hg
  obtain ⟨b', cap', rfl, h4, h5, h6⟩ := RowC.of_own (Kd.own_of_R ho) (by simp)
  exact ⟨⟨come, m, hS.kept hg' (by simp; omega)⟩, h.Y.kept hg' (by simp; omega), h.Wy.keptNe hg' (.inl h3), ⟨b', cap', rfl, h4, h6, ho.1 b' rfl⟩, below_grown h.g hg' (fun r e => by cases e; omega), Nat.le_trans h.hb hg.size⟩

set_option maxHeartbeats 4000000 in
set_option maxRecDepth 100000 in
theorem passed_calls (n : Int) (A : Option Addr) (c : Nat) (l : List S58) (sv st v : Int) (r1 : List Int) (r2 : Int) (w : World) (hr : Kd.C k58 w A l.length l) (h : passedF n l sv st v = some (r1, r2)) :
    Calls Try.prog 30 #[.agg #[.int .i64 n, .slice A l.length c], .agg #[.int .i64 sv, .int .i64 st], .int .i64 v] w fun e w' => ∃ v0, e = .returned (.tuple #[v0, .int .i64 r2]) ∧ Kd.R (Kd.int .i64) 3 w' w.heap.size (fun _ => True) v0 r1 ∧ Below w.heap.size w w' := by
  have hbx := boxes3 w (.cells #[.int .i64 n, .slice A l.length c] 24) (.cells #[.int .i64 sv, .int .i64 st] 26) (.cells #[.int .i64 v] 3)
  have hrx := Kd.C_below hr hbx
  have hcv := C_one ((w.alloc (.cells #[.int .i64 n, .slice A l.length c] 24)).alloc (.cells #[.int .i64 sv, .int .i64 st] 26)) v
  simp only [World.size_alloc] at hcv
  have HR := Lib.hid hr
  have hlm := hr.2.1
  clear hr
  rcases Classical.em (openE n l sv st [v] = 0) with hE | hE
  · have HO := Lib.hid (open_ok n A c l sv st (some ⟨w.heap.size + 1 + 1, 0, none⟩) 1 [v] (((w.alloc (.cells #[.int .i64 n, .slice A l.length c] 24)).alloc (.cells #[.int .i64 sv, .int .i64 st] 26)).alloc (.cells #[.int .i64 v] 3)) hrx hcv hE)
    have HE := Lib.hid hE
    have HX := Lib.hid hbx
    have B0 : Blk (((w.alloc (.cells #[.int .i64 n, .slice A l.length c] 24)).alloc (.cells #[.int .i64 sv, .int .i64 st] 26)).alloc (.cells #[.int .i64 v] 3)) w.heap.size 24 #[.int .i64 n, .slice A l.length c] := ((Blk.new w _ 24).alloc _).alloc _
    have B01 : Blk (((w.alloc (.cells #[.int .i64 n, .slice A l.length c] 24)).alloc (.cells #[.int .i64 sv, .int .i64 st] 26)).alloc (.cells #[.int .i64 v] 3)) (w.heap.size + 1) 26 #[.int .i64 sv, .int .i64 st] := by
      have := (Blk.new (w.alloc (.cells #[.int .i64 n, .slice A l.length c] 24)) #[.int .i64 sv, .int .i64 st] 26).alloc (.cells #[.int .i64 v] 3)
      simpa only [World.size_alloc] using this
    have hsz : (((w.alloc (.cells #[.int .i64 n, .slice A l.length c] 24)).alloc (.cells #[.int .i64 sv, .int .i64 st] 26)).alloc (.cells #[.int .i64 v] 3)).heap.size = w.heap.size + 3 := by simp
    have HB0 := Lib.hid B0
    have HB01 := Lib.hid B01
    have HSZ := Lib.hid hsz
    clear hE hbx hrx B0 B01 hsz hcv
    go_enter Try.func30, Try.ntmps30
    go_upto_region 4 with (go_at_call 52; refine (HO.out).mono ?_; rintro e w' ⟨w1, hb1, rfl, rfl⟩; have HB1 := Lib.hid hb1; clear hb1)
    obtain ⟨hy, hsv, hsv2, hst, hst2, hvs⟩ := openOK HE.out
    have hv0 := (hvs v (by simp)).1
    have hv1 := (hvs v (by simp)).2
    clear hvs
    have hsz1 : w.heap.size + 3 ≤ w1.heap.size := by have := HB1.out.size; rw [HSZ.out] at this; exact this
    have hb2 : Below (w.heap.size + 3) (((w.alloc (.cells #[.int .i64 n, .slice A l.length c] 24)).alloc (.cells #[.int .i64 sv, .int .i64 st] 26)).alloc (.cells #[.int .i64 v] 3)) (w1.alloc (.cells (searchCells n (.slice A l.length c) sv st) 96)) := by rw [← HSZ.out]; exact HB1.out.alloc HB1.out.size _
    have HB2 := Lib.hid hb2
    have B1 := HB0.out.below hb2 (by omega)
    have B11 := HB01.out.below hb2 (by omega)
    have hB : Below w.heap.size w (w1.alloc (.cells (searchCells n (.slice A l.length c) sv st) 96)) := HX.out.trans (hb2.mono (by omega))
    have HS := opened w1 n (.slice A l.length c) sv st
    have HRUN := Lib.hid (run_any soonF 55 (.inl ⟨rfl, rfl⟩) n A c l sv st _ _ w1.heap.size w _ HS hy hsv hsv2 HR.out (by omega) hB.block)
    generalize w1.alloc (.cells (searchCells n (.slice A l.length c) sv st) 96) = W1 at *
    have HY := Lib.hid hy
    have HB1' := Lib.hid B1
    have HB11' := Lib.hid B11
    have HBB := Lib.hid hB
    have hBlt := HS.lt
    clear hb2 B1 B11 hB HS hy
    go_upto_region 5 with (go_at_call 61; refine (HRUN.out).mono ?_; rintro e W2 ⟨M, N, ⟨ve, rfl⟩, hS2, hM2, hg2, hM⟩; have HS2 := Lib.hid hS2; have HG2 := Lib.hid hg2; have HM2 := Lib.hid hM2; clear hS2 hM2 hg2)
    have hn1 := HY.out.n1
    have hn2 := HY.out.n2
    have hn0 : 0 ≤ n := by omega
    have hv20 : v < 20 := by omega
    have hlenl := HY.out.len
    have hw2 := Lib.hid (show Below w.heap.size w W2 from below_grown HBB.out HG2.out (fun r e => by cases e; omega))
    have hf := h
    unfold passedF at hf
    rw [if_neg (by rw [HE.out]; simp)] at hf
    have HF := Lib.hid hf
    clear hf h
    have hc := HS2.out.cm v.toNat (by omega)
    obtain ⟨t, ht⟩ : ∃ t, (runC soonF (fun _ => true) n l sv st).1.getD v.toNat 0 = t := ⟨_, rfl⟩
    rw [ht] at hc
    have HT := Lib.hid ht
    clear ht
    by_cases hne : t = 1048576
    · have hq : (t == 1048576) = true := by simp [hne]
      have hf := HF.out
      rw [if_pos (by rw [HT.out, hne])] at hf
      simp only [Option.some.injEq, Prod.mk.injEq] at hf
      obtain ⟨rfl, rfl⟩ := hf
      clear hne
      go_wp2_with fail
      go_ret2
      exact ⟨.slice none 0 0, rfl, Kd.R_nil _ _ _ _ _, hw2.out⟩
    · have hq : (t == 1048576) = false := by simp [hne]
      have hf := HF.out
      rw [if_neg (by rw [HT.out]; exact hne)] at hf
      clear hne HF
      cases hway : wayL l sv 1000 (runC soonF (fun _ => true) n l sv st).2 v [] with
      | none => rw [hway] at hf; cases hf
      | some r =>
        rw [hway] at hf
        simp only [Option.some.injEq, Prod.mk.injEq] at hf
        obtain ⟨rfl, rfl⟩ := hf
        have hrl := wayL_len l sv 1000 _ _ _ _ hway
        have hmem := wayL_mem l sv 1000 _ _ _ _ hway (fun i hi => by cases hi)
        have hrr0 : r.reverse.length ≤ 1000 := by simp at hrl ⊢; omega
        have HMEM := Lib.hid (show ∀ i ∈ r.reverse, 0 ≤ i ∧ i < (l.length : Int) from fun i hi => hmem i (List.mem_reverse.1 hi))
        clear hmem
        have ga := World.grownBy_alloc W2 (.cells #[.int .i64 sv] 3) none
        have ho0 : RowC (W2.alloc (.cells #[.int .i64 sv] 3)) W2.heap.size 3 1 [sv] := by
          refine ⟨⟨_, Blk.new W2 _ 3, rfl, fun j hj => ?_⟩, by simp, by decide⟩
          have h0 : j = 0 := by simpa using hj
          subst h0
          rfl
        have HWAY := Lib.hid (way_calls w1.heap.size M N n A c l sv st _ _ v r w (W2.alloc (.cells #[.int .i64 sv] 3)) 1000 100001 (HS2.out.kept ga (by simp)) (HM2.out.move (ga.block M HM2.out.lt (by simp))) (by omega) HR.out (Nat.le_trans hw2.out.size ga.size) (fun k hk => (ga.block k (Nat.lt_of_lt_of_le hk hw2.out.size) (by simp)).trans (hw2.out.block k hk)) (by omega) (Nat.le_refl _) hway (rev_ok r (by simp at hrl; omega)))
        have HO0 := Lib.hid ho0
        have hs0 := (HB11'.out.kept HG2.out (by simp; omega))
        have cs0 : W2.cell? ⟨w.heap.size + 1, 0, none⟩ = some (.int .i64 sv) := hs0.cell 0
        clear hway ho0 ga hs0
        obtain ⟨rr, hrr1⟩ : ∃ rr, r.reverse = rr := ⟨_, rfl⟩
        rw [hrr1] at HWAY hrr0 HMEM
        have HRR := Lib.hid hrr1
        clear hrr1
        have hBM : w1.heap.size < M := by omega
        have hM2 := HM2.out.lt
        have hY2 := Lib.hid (HB1'.out.kept HG2.out (by simp; omega))
        go_upto_region 8 with (fail)
        have hal : (W2.alloc (.cells #[.int .i64 sv] 3)).heap.size = W2.heap.size + 1 := by simp
        have HAL := Lib.hid hal
        have HGA := Lib.hid (World.grownBy_alloc W2 (.cells #[.int .i64 sv] 3) none)
        clear hal
        generalize W2.alloc (.cells #[.int .i64 sv] 3) = W3 at *
        go_wp2_with (go_at_call 65; refine (HWAY.out).mono ?_; rintro e W4 ⟨vo, rfl, ho, hg⟩; have HO4 := Lib.hid ho; have HG4 := Lib.hid hg; obtain ⟨A', c', hvo, hc'⟩ := ho.shape; subst hvo; clear ho hg)
        have hP := Lib.hid (show PassS w W4 w1.heap.size n (.slice A l.length c) sv st W2.heap.size (.slice A' rr.length c') rr (.slice (some ⟨W2.heap.size, 0, none⟩) 1 1) [sv] from
          ⟨⟨_, _, (HS2.out.kept HGA.out (by simp)).kept HG4.out (by simp; omega)⟩, (hY2.out.kept HGA.out (by simp)).kept HG4.out (by simp; have := hw2.out.size; omega), HO4.out.lower (by rw [HAL.out]; omega),
           ⟨W2.heap.size, 1, rfl, Nat.le_refl _, HO0.out.kept HG4.out (by simp; omega), fun e => by have := HO4.out.ownge _ e.symm; rw [HAL.out] at this; omega⟩,
           below_grown (below_grown hw2.out HGA.out (fun r e => by cases e)) HG4.out (fun r e => by cases e; omega), Nat.le_trans (by rw [HAL.out]; omega) HG4.out.size⟩)
        have hB2 : w1.heap.size < W2.heap.size := HS2.out.lt
        have hwB : w.heap.size < w1.heap.size := by omega
        generalize W2.heap.size = bO at *
        clear HO4 HG4 HO0 HWAY HGA HAL hY2 cs0 hM2 hBM HS2 HG2 HM2 hc hq HRUN
        go_loopg [10, 43] rr.length (fun kq v10 v43 w' => ∃ (k : Nat), v43 = .int .i64 k ∧ Aside0 (k + kq = rr.length) ∧ Aside0 (PassS w w' w1.heap.size n (.slice A l.length c) sv st bO (.slice A' rr.length c') rr v10 (passT n l sv st v rr k)))
        case atStart => exact ⟨0, rfl, ⟨by omega⟩, ⟨hP.out⟩⟩
        case round =>
          obtain ⟨k, rfl, HN, HP⟩ := hrel
          cases gk with
          | succ k1 =>
            have hlt : k < rr.length := by have := HN.out; omega
            have hl4 : decide ((k : Int) < (rr.length : Int)) = true := decide_eq_true (by omega)
            have hl5 : decide (k < rr.length) = true := decide_eq_true hlt
            have hT := (Kd.R_reads' HP.out.Wy.own).2.2
            obtain ⟨adt, et, hct⟩ := Kd.at_int hT (k : Int) (by omega) (by omega)
            cases et
            rw [Int.toNat_natCast] at hct
            have hrd : rd rr (k : Int) = rr[k] := by rw [rd_nat rr k hlt]
            have hgd : rr.getD k 0 = rr[k] := by simp [hlt]
            have hi := HMEM.out rr[k] (List.getElem_mem hlt)
            rw [hrd] at hct
            have HPT := Lib.hid (show passT n l sv st v rr (k + 1) = if (runC soonF (notToF (rd_T58 l rr[k]).f1) n l sv st).1.getD v.toNat 0 = 1048576 then passT n l sv st v rr k ++ [(rd_T58 l rr[k]).f1] else passT n l sv st v rr k by rw [passT, hgd])
            generalize rr[k] = i at *
            have hC := Kd.C_below HR.out HP.out.g
            obtain ⟨ad, e0, hc0, hc1, hc2, hc3⟩ := at_T58 hC i hi.1 hi.2
            cases e0
            have hi1 := hi.1
            have hi2 := hi.2
            have hi3 : i.toNat < l.length := by omega
            have cy : wr.cell? ⟨w.heap.size, 1, none⟩ = some (.slice (some ad) l.length c) := HP.out.Y.cell 1
            clear hC hT hrd hgd hi hP
            generalize rd_T58 l i = m at *
            go_upto_region 12 with (fail)
            have HP5 := HP.out.kept (World.grownBy_alloc wr (.cells #[.int .i64 m.f1] 3) none)
            have hbk := Blk.new wr #[.int .i64 m.f1] 3
            have hbV : w1.heap.size < wr.heap.size := by have := HP.out.hb; omega
            generalize wr.heap.size = bV at *
            generalize wr.alloc (.cells #[.int .i64 m.f1] 3) = W5 at *
            clear hct hc0 hc1 hc2 hc3 cy HP
            obtain ⟨come5, m5, hS5⟩ := HP5.S
            have HRUN := Lib.hid (run_calls w1.heap.size n (some ad) c l sv st come5 m5 55 66 #[] #[.pointer (some ⟨bV, 0, none⟩)] soonF (notToF m.f1) w W5 hS5 hn1 hn2 hsv hsv2 (fun m hm => ⟨(HY.out.mv m hm).2.2.1, (HY.out.mv m hm).2.2.2.1⟩) HR.out (by omega) HP5.g.block
              (enters_of Try.func55 (by kernel_rfl) rfl) (enters_of Try.func66 (by kernel_rfl) rfl) (fun W t m => soonest_calls t m W)
              (fun W m' hgW => by have h := notTo_calls bV m.f1 m' W ((hbk.kept hgW (by simp; omega)).cell 0); simpa [notToF] using h))
            have HP5' := Lib.hid HP5
            have HBK := Lib.hid hbk
            clear HP5 hS5 hbk
            go_upto_region 13 with (go_at_call 61; refine (HRUN.out).mono ?_; rintro e W6 ⟨M6, N6, ⟨ve6, rfl⟩, hS6, hM6, hg6, hM6'⟩; have HP6 := Lib.hid (HP5'.out.ran hB2 hwB hS6 hg6); have HS6 := Lib.hid hS6; have HB6 := Lib.hid (HBK.out.kept hg6 (by simp; omega)); clear hS6 hM6 hg6 hM6')
            have hc := HS6.out.cm v.toNat (by omega)
            have hcv : W6.cell? ⟨bV, 0, none⟩ = some (.int .i64 m.f1) := HB6.out.cell 0
            obtain ⟨t6, ht6⟩ : ∃ t6, (runC soonF (notToF m.f1) n l sv st).1.getD v.toNat 0 = t6 := ⟨_, rfl⟩
            rw [ht6] at hc
            have HT6 := Lib.hid ht6
            clear ht6 HRUN
            by_cases hne : t6 = 1048576
            · have hq : (t6 == 1048576) = true := by simp [hne]
              have HQ := Lib.hid hne
              clear hne
              have hR6 := Lib.hid (show Kd.R (Kd.int .i64) 3 W6 bO (fun k => some k ≠ (Value.slice (some adt) rr.length c').ownBlock) u10 (passT n l sv st v rr k) by
                obtain ⟨b, cap, e, h1, h2, h3⟩ := HP6.out.O
                rw [e]
                exact Kd.R_of_own (h2.own h1) (fun k hk => by rw [← hk]; exact h3))
              have hB6 := Lib.hid (show Below bO (cutW W6 bO) W6 from by have h := cutW_below HP6.out.hb; rw [h.2] at h; exact h.1)
              have hpl := (passT_len n l sv st v rr k).2
              go_wp2_with ((with_reducible refine gate_builtin (b := .append) (xs := #[.tmp 63, .tmp 65]) rfl ?_); at_builtin; refine Kd.R_append (Kd.int .i64) (w0 := cutW W6 bO) bO rfl (.tmp 63) (.tmp 65) 27 3 (.int .i64 0) 8 rfl Try.underlying27 info3 rfl (by decide) (by omega) u10 (passT n l sv st v rr k) m.f1 [.int .i64 m.f1] (fun k => some k ≠ (Value.slice (some adt) rr.length c').ownBlock) (fun _ => False) rfl rfl ?aP (fun _ hk => hk.elim) ?aF ?aO ?aB ?aS ?aL ?_; (case aP => exact rfl); (case aB => exact hB6.out); (case aF => exact (fun q hq e => by have := HP6.out.Wy.ownlt q e.symm; omega)); (case aO => exact hR6.out); (case aS => exact HP6.out.hb); (case aL => omega); intro v7 w24 ho hb hg hat; have HP7 := Lib.hid (HP6.out.grew hB2 hwB ho hg); clear ho hb hg hat)
              go_roundg k1
              case rel => exact ⟨k + 1, by go_num, ⟨by have := HN.out; omega⟩, ⟨by rw [HPT.out, if_pos (by rw [HT6.out]; exact HQ.out)]; exact HP7.out⟩⟩
              case measure => omega
            · have hq : (t6 == 1048576) = false := by simp [hne]
              have HQ := Lib.hid hne
              clear hne
              go_wp2_with fail
              go_roundg k1
              case rel => exact ⟨k + 1, by go_num, ⟨by have := HN.out; omega⟩, ⟨by rw [HPT.out, if_neg (by rw [HT6.out]; exact HQ.out)]; exact HP6.out⟩⟩
              case measure => omega
          | zero =>
            have hk : k = rr.length := by have := HN.out; omega
            subst hk
            have hl4 : decide ((rr.length : Int) < (rr.length : Int)) = false := decide_eq_false (by omega)
            have hl5 : decide (rr.length < rr.length) = false := decide_eq_false (by omega)
            have hpl := passT_len n l sv st v rr rr.length
            obtain ⟨b, cap, rfl, hb1, hrow, _⟩ := HP.out.O
            have HSORT := Lib.hid (sort67 b cap (passT n l sv st v rr rr.length) wr hrow hpl.1 (by omega))
            clear hrow
            go_wp2_with (go_at_call 67; refine (HSORT.out).mono ?_; rintro e W7 ⟨rfl, hrow7, hg7⟩; have HROW7 := Lib.hid hrow7; have HG7 := Lib.hid hg7; clear hrow7 hg7)
            go_ret2
            have hww := HP.out.g
            refine ⟨_, rfl, ?_, below_grown hww HG7.out (fun r e => by cases e; omega)⟩
            rw [HRR.out]
            have ho := HROW7.out.own (base := w.heap.size) (by omega)
            have hml : ((passT n l sv st v rr rr.length).mergeSort fun x y => decide (x ≤ y)).length = (passT n l sv st v rr rr.length).length := List.length_mergeSort _
            have hR : Kd.R (Kd.int .i64) 3 W7 w.heap.size (fun _ => True) (.slice (some ⟨b, 0, none⟩) ((passT n l sv st v rr rr.length).mergeSort fun x y => decide (x ≤ y)).length cap) ((passT n l sv st v rr rr.length).mergeSort fun x y => decide (x ≤ y)) := Kd.R_of_own ho (fun _ _ => trivial)
            rw [hml] at hR
            exact hR
  · have HO := Lib.hid (open_bad n A c l sv st (some ⟨w.heap.size + 1 + 1, 0, none⟩) 1 [v] (((w.alloc (.cells #[.int .i64 n, .slice A l.length c] 24)).alloc (.cells #[.int .i64 sv, .int .i64 st] 26)).alloc (.cells #[.int .i64 v] 3)) hrx hcv hE)
    have hf := h
    unfold passedF at hf
    rw [if_pos hE] at hf
    simp only [Option.some.injEq, Prod.mk.injEq] at hf
    obtain ⟨rfl, rfl⟩ := hf
    obtain ⟨ev, hev⟩ : ∃ ev, openE n l sv st [v] = ev := ⟨_, rfl⟩
    rw [hev] at HO hE
    have HEV := Lib.hid hev
    have hne : (ev != 0) = true := by simp [hE]
    have HE := Lib.hid hE
    have HX := Lib.hid hbx
    clear hev hE hbx hrx hcv
    go_enter Try.func30, Try.ntmps30
    go_wp2_with (go_at_call 52; refine (HO.out).mono ?_; rintro e w' ⟨rfl, hb1⟩; have HB1 := Lib.hid hb1; clear hb1)
    go_ret2
    exact ⟨.slice none 0 0, by rw [HEV.out]; rfl, Kd.R_nil _ _ _ _ _, later3 HB1.out⟩
end Go.Proofs.Ytfhmepdbbhcncaa.P

namespace Go.Proofs.Ytfhmepdbbhcncaa.P
open Go.RowKit Go.Shelf Go.Proofs.YtfhmepdbbhcncaaW.PrintWords Go.Proofs.YtfhmepdbbhcncaaW.PrintLast Go.Proofs.YtfhmepdbbhcncaaW.PrintMore Go.Proofs.YtfhmepdbbhcncaaM Go.Proofs.YtfhmepdbbhcncaaR
set_option linter.unusedVariables false
set_option linter.unusedSimpArgs false

theorem all_rangeI : ∀ (xs ys : List Int), xs.length = ys.length → ((List.range xs.length).all fun i => xs.getD i 0 == ys.getD i 0) = (xs == ys)
  | [], [], _ => rfl
  | x :: xs, y :: ys, h => by
    have ih := all_rangeI xs ys (by simpa using h)
    rw [List.length_cons, List.range_succ_eq_map, List.all_cons, List.all_map]
    simp only [List.getD_cons_zero, Function.comp_def, List.getD_cons_succ, ih]
    simp [List.cons_beq_cons]
  | [], _ :: _, h => by simp at h
  | _ :: _, [], h => by simp at h

def arr (xs : List Int) : Array Value := (xs.map (Value.int .i64)).toArray
theorem part2 (xs : List Int) (i : Nat) (hi : i < xs.length) (w : World) : (part 2 (arr xs) (i * Try.prog.cellsOf 2)).run Try.prog w = .ok (.int .i64 (xs.getD i 0)) w := by
  have hc : Try.prog.cellsOf 2 = 1 := by kernel_rfl
  rw [hc]
  simp [part, isAgg, run_underlying Try.underlying2, arr, List.getD, hi]
theorem eq93 (xs ys : List Int) (hx : xs.length = 20) (hy : ys.length = 20) (w : World) : (Op.equal 93 (.agg (arr xs)) (.agg (arr ys))).run Try.prog w = .ok (xs == ys) w := by
  obtain ⟨i, hi, _⟩ := info_parts info2
  unfold Op.equal Op.maxDepth
  rw [run_equalIn_array w _ _ _ Try.underlying93 hi, ← all_rangeI xs ys (by omega), hx]
  have hl : ∀ i ∈ List.range 20, i < 20 := fun i hi => List.mem_range.1 hi
  generalize List.range 20 = is at hl ⊢
  induction is with
  | nil => simp [Op.eqItems]
  | cons j is ih =>
    have hj := hl j (by simp)
    have he : ∀ d, (Op.equalIn (d + 1) 2 (.int .i64 (xs.getD j 0)) (.int .i64 (ys.getD j 0))).run Try.prog w = .ok (xs.getD j 0 == ys.getD j 0) w := fun d => by
      simp [Op.equalIn, run_underlying Try.underlying2]
    simp only [Op.eqItems, Sem.run_bind, part2 xs j (by omega), part2 ys j (by omega), he, Result.andThen_ok, List.all_cons]
    cases xs.getD j 0 == ys.getD j 0
    · simp
    · simpa using ih (fun i hi => hl i (by simp [hi]))
end Go.Proofs.Ytfhmepdbbhcncaa.P

namespace Go.Proofs.Ytfhmepdbbhcncaa.P
open Go.RowKit Go.Shelf Go.Proofs.YtfhmepdbbhcncaaW.PrintWords Go.Proofs.YtfhmepdbbhcncaaW.PrintLast Go.Proofs.YtfhmepdbbhcncaaW.PrintMore Go.Proofs.YtfhmepdbbhcncaaM Go.Proofs.YtfhmepdbbhcncaaR
set_option linter.unusedVariables false
set_option linter.unusedSimpArgs false

def latMove (o : List Int) (m : S58) : List Int := if m.f2.f0 ≤ o.getD m.f1.toNat 0 then o.set m.f0.toNat (max (o.getD m.f0.toNat 0) (min (o.getD m.f1.toNat 0) m.f2.f1)) else o
def latStep (l : List S58) (o : List Int) : List Int := l.foldl latMove o
def latF (l : List S58) : Nat → List Int → Option (List Int)
  | 0, _ => none
  | k + 1, o => if latStep l o = o then some o else latF l k (latStep l o)
def lat0 (m : S58) : List Int := (List.replicate 20 (-1)).set m.f0.toNat m.f2.f1
theorem latMove_len (o : List Int) (m : S58) : (latMove o m).length = o.length := by unfold latMove; split <;> simp

structure LatS (w W : World) (n : Int) (sl : Value) (m0 : S58) (out : List Int) : Prop where
  y : Blk W w.heap.size 24 #[.int .i64 n, sl]
  la : Blk W (w.heap.size + 1) 58 #[.int .i64 m0.f0, .int .i64 m0.f1, .int .i64 m0.f2.f0, .int .i64 m0.f2.f1]
  res : Blk W (w.heap.size + 1 + 1) 93 (arr (List.replicate 20 0))
  o : Blk W (w.heap.size + 1 + 1 + 1) 93 (arr out)
  len : out.length = 20
  g : Below w.heap.size w W
section
variable {w W W' : World} {n : Int} {sl : Value} {m0 : S58} {out : List Int}
theorem LatS.kept (h : LatS w W n sl m0 out) (hg : W.grownBy W' none) : LatS w W' n sl m0 out :=
  ⟨h.y.kept hg (by simp), h.la.kept hg (by simp), h.res.kept hg (by simp), h.o.kept hg (by simp), h.len, below_grown h.g hg (fun r e => by cases e)⟩
theorem LatS.far (h : LatS w W n sl m0 out) {b : Nat} (hb : w.heap.size + 1 + 1 + 1 < b) (hg : W.grownBy W' (some b)) : LatS w W' n sl m0 out :=
  ⟨h.y.kept hg (by simp; omega), h.la.kept hg (by simp; omega), h.res.kept hg (by simp; omega), h.o.kept hg (by simp; omega), h.len, below_grown h.g hg (fun r e => by cases e; omega)⟩
theorem LatS.set (h : LatS w W n sl m0 out) (v : Nat) (hv : v < 20) (t : Int) : LatS w (W.setCell ⟨w.heap.size + 1 + 1 + 1, v, none⟩ (.int .i64 t)) n sl m0 (out.set v t) := by
  have hg := grown_set W (w.heap.size + 1 + 1 + 1) v (.int .i64 t)
  have hl := h.len
  refine ⟨h.y.kept hg (by simp; omega), h.la.kept hg (by simp), h.res.kept hg (by simp), ?_, by simpa using hl, below_grown h.g hg (fun r e => by cases e; omega)⟩
  have := h.o.set v (.int .i64 t)
  have e : (arr out).setIfInBounds v (.int .i64 t) = arr (out.set v t) := by
    simp [arr, List.map_set]
  rw [e] at this
  exact this
theorem LatS.c (h : LatS w W n sl m0 out) (v : Nat) (hv : v < 20) : W.cell? ⟨w.heap.size + 1 + 1 + 1, v, none⟩ = some (.int .i64 (out.getD v 0)) := by
  have hl := h.len
  rw [h.o.cell]
  simp [arr, List.getD, show v < out.length by omega]
theorem LatS.fz (h : LatS w W n sl m0 out) (v : Nat) : W.frozen? ⟨w.heap.size + 1 + 1 + 1, v, none⟩ = false := h.o.fz v
end

theorem info93 : (Try.prog.info? 93).map (·.size) = some 20 := by kernel_rfl
theorem guard93 : Try.prog.eqGuardType Try.prog.depth 93 = false := by kernel_rfl
/-- '==' of two times. -/
theorem eql_arr {ops : Array Oper} {rest : List Oper} {o : Oper} {a : Act} {W : World} {Q : Exit → Act → World → Prop} (hgd : o.guard = none) (x y : Tmp) (ty : TypeId) (ho : o.op = .binOp .eql 93 (.tmp x) (.tmp y) ty) (xs ys : List Int) (hx : a.eval (.tmp x) = .agg (arr xs)) (hy : a.eval (.tmp y) = .agg (arr ys))
    (hl : xs.length = 20) (hl2 : ys.length = 20) (h : wpList Try.prog ops Q rest (a.put o.dst (.bool (xs == ys))) W) : wpList Try.prog ops Q (o :: rest) a W := by
  refine wpList_plain hgd fun K hK => ?_
  unfold Oper.wp execOp
  have he := eq93 xs ys hl hl2 W
  have hg := guard93
  simp [ho, hx, hy, eqGuard, binOp, he, hg, Sem.run_bind, Result.andThen]
  exact hK _ _ h
theorem load_arr {ops : Array Oper} {rest : List Oper} {o : Oper} {a : Act} {W : World} {Q : Exit → Act → World → Prop} (hgd : o.guard = none) (x : Operand) (ho : o.op = .load 93 x) (b : Nat) (xs : List Int) (hx : a.eval x = .pointer (some ⟨b, 0, none⟩))
    (hb : Blk W b 93 (arr xs)) (hl : xs.length = 20) (h : wpList Try.prog ops Q rest (a.put o.dst (.agg (arr xs))) W) : wpList Try.prog ops Q (o :: rest) a W :=
  wpList_load_row hgd 93 x ho b hx 93 (arr xs) (0, 0) _ hb Try.underlying93 rfl (by rw [info93]; simp [arr, hl]) h
theorem store_arr {ops : Array Oper} {rest : List Oper} {o : Oper} {a : Act} {W : World} {Q : Exit → Act → World → Prop} (hgd : o.guard = none) (x y : Operand) (ho : o.op = .store 93 x y) (b : Nat) (xs ys : List Int) (hx : a.eval x = .pointer (some ⟨b, 0, none⟩)) (hy : a.eval y = .agg (arr xs))
    (hb : Blk W b 93 (arr ys)) (hl : xs.length = 20) (hl2 : ys.length = 20) (h : ∀ W', Blk W' b 93 (arr xs) → W.grownBy W' (some b) → wpList Try.prog ops Q rest (a.put o.dst undef) W') : wpList Try.prog ops Q (o :: rest) a W := by
  obtain ⟨cur', h1, h2, _, h4, _, h6⟩ := Blk.sets (arr xs).toList 0 W (arr ys) hb (by simp [arr, hl, hl2])
  have hc : cur' = arr xs := by
    apply Array.ext_getElem?
    intro j
    by_cases hj : j < 20
    · have := h4 j (by simp [arr, hl, hj])
      rw [Nat.zero_add] at this
      rw [this, Array.getElem?_toList]
    · rw [Array.getElem?_eq_none (by rw [h2]; simp [arr, hl2]; omega), Array.getElem?_eq_none (by simp [arr, hl]; omega)]
  subst hc
  refine wpList_store_mid hgd 93 x y ho b 0 (arr xs) hx hy (fun j hj => ?_) (by rw [info93]; simp [arr, hl]) (by simp [arr, Value.oneCell']) (h _ h1 h6)
  refine ⟨?_, hb.fz _⟩
  rw [Nat.zero_add, hb.cell]
  have hj2 : j < 20 := by simpa [arr, hl] using hj
  simp [arr, hl2, hj2]

set_option maxHeartbeats 4000000 in
set_option maxRecDepth 100000 in
theorem latest_calls (n : Int) (A : Option Addr) (c : Nat) (l : List S58) (m0 : S58) (r : List Int) (K : Nat) (w : World) (hr : Kd.C k58 w A l.length l) (hy : YardOK n l) (hm : m0 ∈ l) (h : latF l K (lat0 m0) = some r) :
    Calls Try.prog 68 #[.agg #[.int .i64 n, .slice A l.length c], enc58 m0] w fun e w' => e = .returned (.agg (arr r)) ∧ r.length = 20 ∧ Below w.heap.size w w' := by
  have HR := Lib.hid hr
  have HY := Lib.hid hy
  have HM := Lib.hid (hy.mv m0 hm)
  have HF := Lib.hid h
  have hlm := hr.2.1
  have e58 : enc58 m0 = .agg #[.int .i64 m0.f0, .int .i64 m0.f1, .int .i64 m0.f2.f0, .int .i64 m0.f2.f1] := rfl
  have HS0 := Lib.hid (show LatS w ((((w.alloc (.cells #[.int .i64 n, .slice A l.length c] 24)).alloc (.cells #[.int .i64 m0.f0, .int .i64 m0.f1, .int .i64 m0.f2.f0, .int .i64 m0.f2.f1] 58)).alloc (.cells (arr (List.replicate 20 0)) 93)).alloc (.cells (arr (List.replicate 20 0)) 93)) n (.slice A l.length c) m0 (List.replicate 20 0) from by
    have b0 := ((Blk.new w #[.int .i64 n, .slice A l.length c] 24).alloc (.cells #[.int .i64 m0.f0, .int .i64 m0.f1, .int .i64 m0.f2.f0, .int .i64 m0.f2.f1] 58)).alloc (.cells (arr (List.replicate 20 0)) 93) |>.alloc (.cells (arr (List.replicate 20 0)) 93)
    have b1 := ((Blk.new (w.alloc (.cells #[.int .i64 n, .slice A l.length c] 24)) #[.int .i64 m0.f0, .int .i64 m0.f1, .int .i64 m0.f2.f0, .int .i64 m0.f2.f1] 58).alloc (.cells (arr (List.replicate 20 0)) 93)).alloc (.cells (arr (List.replicate 20 0)) 93)
    have b2 := (Blk.new ((w.alloc (.cells #[.int .i64 n, .slice A l.length c] 24)).alloc (.cells #[.int .i64 m0.f0, .int .i64 m0.f1, .int .i64 m0.f2.f0, .int .i64 m0.f2.f1] 58)) (arr (List.replicate 20 0)) 93).alloc (.cells (arr (List.replicate 20 0)) 93)
    have b3 := Blk.new (((w.alloc (.cells #[.int .i64 n, .slice A l.length c] 24)).alloc (.cells #[.int .i64 m0.f0, .int .i64 m0.f1, .int .i64 m0.f2.f0, .int .i64 m0.f2.f1] 58)).alloc (.cells (arr (List.replicate 20 0)) 93)) (arr (List.replicate 20 0)) 93
    simp only [World.size_alloc] at b1 b2 b3
    exact ⟨b0, b1, b2, b3, by simp, (boxes3 w _ _ _).alloc (by simp; omega) _⟩)
  rw [e58]
  clear hr hy hm h e58
  go_enter Try.func68, Try.ntmps68
  go_wp2_with fail
  go_loopg [10] 20 (fun kq v10 w' => ∃ (k : Nat) (out : List Int), v10 = .int .i64 k ∧ Aside0 (k + kq = 20) ∧ Aside0 (LatS w w' n (.slice A l.length c) m0 out) ∧ Aside0 (∀ j, j < k → out.getD j 0 = -1))
  case atStart => exact ⟨0, List.replicate 20 0, rfl, ⟨by omega⟩, ⟨HS0.out⟩, ⟨fun j hj => absurd hj (by omega)⟩⟩
  case round =>
    obtain ⟨k, out, rfl, HN, HS, HC⟩ := hrel
    cases gk with
    | succ k1 =>
      have hk : (k : Int) < 20 := by have := HN.out; omega
      have hc := HS.out.c k (by omega)
      have hf := HS.out.fz k
      go_wp2
      go_roundg k1
      case rel => exact ⟨k + 1, _, by go_num, ⟨by have := HN.out; omega⟩, ⟨HS.out.set k (by omega) (-1)⟩, ⟨fun j hj => by
        have hl2 := HS.out.len
        by_cases e : j = k
        · subst e; rw [List.getD_eq_getElem?_getD, List.getElem?_set_self (by omega)]; rfl
        · have := HC.out j (by omega); simpa [List.getElem?_set, Ne.symm e] using this⟩⟩
      case measure => omega
    | zero =>
      have hk : k = 20 := by have := HN.out; omega
      have HCM : out = List.replicate 20 (-1) := by
        have hl2 := HS.out.len
        apply List.ext_getElem
        · simp [hl2]
        · intro j h1 h2
          have := HC.out j (by omega)
          rw [List.getElem_replicate]
          simpa [h1] using this
      subst HCM hk
      obtain ⟨hm1, hm2, _⟩ := HM.out
      have hn2 := HY.out.n2
      have hm20 : m0.f0 < 20 := by omega
      have la0 : wr.cell? ⟨w.heap.size + 1, 0, none⟩ = some (.int .i64 m0.f0) := HS.out.la.cell 0
      have la3 : wr.cell? ⟨w.heap.size + 1, 3, none⟩ = some (.int .i64 m0.f2.f1) := HS.out.la.cell 3
      have hc := HS.out.c m0.f0.toNat (by omega)
      have hf := HS.out.fz m0.f0.toNat
      have HS1 := Lib.hid (HS.out.set m0.f0.toNat (by omega) m0.f2.f1)
      clear HS HC
      go_wp2_with fail
      have HS2 := HS1.out
      generalize wr.setCell ⟨w.heap.size + 1 + 1 + 1, m0.f0.toNat, none⟩ (.int .i64 m0.f2.f1) = Wa at *
      clear hc hf la0 la3 HS1
      go_loopg [] K (fun kq w' => ∃ (out : List Int), Aside0 (LatS w w' n (.slice A l.length c) m0 out) ∧ Aside0 (latF l kq out = some r))
      case atStart => exact ⟨lat0 m0, ⟨HS2⟩, ⟨HF.out⟩⟩
      case round =>
        clear HS2
        obtain ⟨out, HS, HT⟩ := hrel
        cases gk with
        | zero => have := HT.out; simp [latF] at this
        | succ k1 =>
          have HSb0 := HS.out.kept (World.grownBy_alloc wr (.cells #[.int .i64 0, .int .i64 0, .int .i64 0, .int .i64 0, .int .i64 0, .int .i64 0, .int .i64 0, .int .i64 0, .int .i64 0, .int .i64 0, .int .i64 0, .int .i64 0, .int .i64 0, .int .i64 0, .int .i64 0, .int .i64 0, .int .i64 0, .int .i64 0, .int .i64 0, .int .i64 0] 93) none)
          have HBb0 := Blk.new wr #[.int .i64 0, .int .i64 0, .int .i64 0, .int .i64 0, .int .i64 0, .int .i64 0, .int .i64 0, .int .i64 0, .int .i64 0, .int .i64 0, .int .i64 0, .int .i64 0, .int .i64 0, .int .i64 0, .int .i64 0, .int .i64 0, .int .i64 0, .int .i64 0, .int .i64 0, .int .i64 0] 93
          have hbB : w.heap.size + 1 + 1 + 1 < wr.heap.size := HS.out.o.lt
          go_upto_region 9 with (first
            | ((with_reducible refine gate_dst (N := 22) rfl ?_); refine load_arr rfl (.tmp 5) rfl (w.heap.size + 1 + 1 + 1) out rfl HS.out.o HS.out.len ?_)
            | ((with_reducible refine gate_store (t := 93) (p := 7) rfl ?_); refine store_arr rfl (.tmp 7) (.tmp 22) rfl wr.heap.size out (List.replicate 20 0) rfl rfl HBb0 HS.out.len rfl ?_; intro Wb hb1 hg1; have HBb := Lib.hid hb1; have HGb := Lib.hid hg1; clear hb1 hg1))
          have HSb : LatS w Wb n (.slice A l.length c) m0 out := HSb0.far hbB HGb.out
          clear HS HSb0 HBb0
          have HBb := HBb.out
          generalize wr.heap.size = bB at *
          have cy : Wb.cell? ⟨w.heap.size, 1, none⟩ = some (.slice A l.length c) := HSb.y.cell 1
          go_wp2_with fail
          clear cy
          go_loopg [26] l.length (fun kq v26 w' => ∃ (k : Nat) (o2 : List Int), v26 = .int .i64 k ∧ Aside0 (k + kq = l.length) ∧ Aside0 ((l.take k).foldl latMove out = o2) ∧ Aside0 (LatS w w' n (.slice A l.length c) m0 o2) ∧ Aside0 (Blk w' bB 93 (arr out)))
          case atStart => exact ⟨0, out, rfl, ⟨by omega⟩, ⟨rfl⟩, ⟨HSb⟩, ⟨HBb⟩⟩
          case round =>
            clear HBb
            obtain ⟨k, o2, rfl, HN2, HO2, HS2, HB2⟩ := hrel
            cases gk with
            | succ k2 =>
              have hlt : k < l.length := by have := HN2.out; omega
              have hl4 : decide ((k : Int) < (l.length : Int)) = true := decide_eq_true (by omega)
              have hl5 : decide (k < l.length) = true := decide_eq_true hlt
              have hC := Kd.C_below HR.out HS2.out.g
              obtain ⟨ad, e0, hc0, hc1, hc2, hc3⟩ := at_T58 hC (k : Int) (by omega) (by omega)
              cases e0
              have hmem : rd_T58 l (k : Int) ∈ l := by rw [rd_T58_nat l k hlt]; exact List.getElem_mem hlt
              have HMM := Lib.hid (HY.out.mv _ hmem)
              have HO3 := Lib.hid (show (l.take (k + 1)).foldl latMove out = latMove o2 (rd_T58 l (k : Int)) by rw [foldl_take_succ _ _ _ _ hlt, HO2.out, rd_T58_nat l k hlt])
              rw [Int.toNat_natCast] at hc0 hc1 hc2 hc3
              clear hC hmem
              generalize rd_T58 l (k : Int) = m at *
              obtain ⟨hm01, hm02, hm11, hm12, _⟩ := HMM.out
              have hbk := Blk.new wr #[.int .i64 m.f0, .int .i64 m.f1, .int .i64 m.f2.f0, .int .i64 m.f2.f1] 58
              have hs3 := HS2.out.kept (World.grownBy_alloc wr (.cells #[.int .i64 m.f0, .int .i64 m.f1, .int .i64 m.f2.f0, .int .i64 m.f2.f1] 58) none)
              have hb3 := HB2.out.kept (World.grownBy_alloc wr (.cells #[.int .i64 m.f0, .int .i64 m.f1, .int .i64 m.f2.f0, .int .i64 m.f2.f1] 58) none) (by simp)
              have hbM : bB < wr.heap.size := HB2.out.lt
              go_upto_region 12 with (fail)
              generalize wr.heap.size = bM at *
              generalize wr.alloc (.cells #[.int .i64 m.f0, .int .i64 m.f1, .int .i64 m.f2.f0, .int .i64 m.f2.f1] 58) = W3 at *
              clear hc0 hc1 hc2 hc3 HS2 HB2
              have g0 : W3.cell? ⟨bM, 0, none⟩ = some (.int .i64 m.f0) := hbk.cell 0
              have g1 : W3.cell? ⟨bM, 1, none⟩ = some (.int .i64 m.f1) := hbk.cell 1
              have g2 : W3.cell? ⟨bM, 2, none⟩ = some (.int .i64 m.f2.f0) := hbk.cell 2
              have g3 : W3.cell? ⟨bM, 3, none⟩ = some (.int .i64 m.f2.f1) := hbk.cell 3
              have ct := hs3.c m.f1.toNat (by omega)
              have hm120 : m.f1 < 20 := by omega
              have hm020 : m.f0 < 20 := by omega
              obtain ⟨t, ht⟩ : ∃ t, o2.getD m.f1.toNat 0 = t := ⟨_, rfl⟩
              rw [ht] at ct
              have HT2 := Lib.hid ht
              have HS3 := Lib.hid hs3
              have HB3 := Lib.hid hb3
              have HBK := Lib.hid hbk
              clear ht hs3 hb3 hbk
              by_cases hge : m.f2.f0 ≤ t
              · have hq1 : decide (t ≥ m.f2.f0) = true := decide_eq_true hge
                have HO4 := Lib.hid (HO3.out.trans (if_pos (by rw [HT2.out]; exact hge)))
                clear hge
                go_quiet (fail)
                go_upto_region 13 with (fail)
                obtain ⟨W4, e4⟩ : ∃ W4, (W3.drewN nq).drew = W4 := ⟨_, rfl⟩
                have gq : W3.grownBy W4 none := by rw [← e4]; exact grown_of_below (below_drew (below_dN (Below.refl _ _) _)) none
                have hs4 := HS3.out.kept gq
                have HB4 := Lib.hid (HB3.out.kept gq (by simp))
                have hbk4 := HBK.out.kept gq (by simp)
                clear g0 g1 g2 g3 ct
                have g0 : W4.cell? ⟨bM, 0, none⟩ = some (.int .i64 m.f0) := hbk4.cell 0
                have g1 : W4.cell? ⟨bM, 1, none⟩ = some (.int .i64 m.f1) := hbk4.cell 1
                have g3 : W4.cell? ⟨bM, 3, none⟩ = some (.int .i64 m.f2.f1) := hbk4.cell 3
                have ct := hs4.c m.f1.toNat (by omega)
                have cf := hs4.c m.f0.toNat (by omega)
                have cfz := hs4.fz m.f0.toNat
                rw [HT2.out] at ct
                obtain ⟨t0, ht0⟩ : ∃ t0, o2.getD m.f0.toNat 0 = t0 := ⟨_, rfl⟩
                rw [ht0] at cf
                have HT0 := Lib.hid ht0
                have HS5 := Lib.hid (hs4.set m.f0.toNat (by omega) (max t0 (min t m.f2.f1)))
                clear ht0 hs4 hbk4
                refine wp_region_still_tail 16 (by kernel_rfl) (by kernel_rfl) ?_
                simp only [List.take_succ_cons, List.take_zero, List.drop_succ_cons, List.drop_zero]
                generalize hzz : ({ heap := (W3.drewN nq).heap, tape := (W3.drewN nq).tape, drawn := (W3.drewN nq).drawn + 1, os := (W3.drewN nq).os, output := (W3.drewN nq).output } : World) = Wz
                have hz1 : Wz = W4 := hzz.symm.trans e4
                subst hz1
                clear hzz
                repeat still_step
                refine wpStill_nil ?_
                go_wp2_with fail
                go_roundg k2
                case rel => exact ⟨k + 1, o2.set m.f0.toNat (max t0 (min t m.f2.f1)), by go_num, ⟨by have := HN2.out; omega⟩, ⟨by rw [HO4.out, HT2.out, HT0.out]⟩, ⟨HS5.out⟩, ⟨HB4.out.kept (grown_set _ _ _ _) (by simp; omega)⟩⟩
                case measure => omega
              · have hq1 : decide (t ≥ m.f2.f0) = false := decide_eq_false hge
                have HO4 := Lib.hid (HO3.out.trans (if_neg (by rw [HT2.out]; exact hge)))
                clear hge
                go_quiet (fail)
                have gq : W3.grownBy (W3.drewN nq) none := grown_of_below (below_dN (Below.refl _ _) _) none
                have HS4 := Lib.hid (HS3.out.kept gq)
                have HB4 := Lib.hid (HB3.out.kept gq (by simp))
                go_wp2_with fail
                go_roundg k2
                case rel => exact ⟨k + 1, o2, by go_num, ⟨by have := HN2.out; omega⟩, ⟨HO4.out⟩, ⟨HS4.out⟩, ⟨HB4.out⟩⟩
                case measure => omega
            | zero =>
              have hk : k = l.length := by have := HN2.out; omega
              subst hk
              have hl4 : decide ((l.length : Int) < (l.length : Int)) = false := decide_eq_false (by omega)
              have hl5 : decide (l.length < l.length) = false := decide_eq_false (by omega)
              have hst : latStep l out = o2 := by have := HO2.out; rw [List.take_length] at this; exact this
              have HST := Lib.hid hst
              have hol := HSb.len
              have heq := eq93 o2 out HS2.out.len HSb.len
              clear hst
              by_cases hoo : o2 = out
              · have hq : (o2 == out) = true := by simp [hoo]
                rw [hq] at heq
                have HOO := Lib.hid hoo
                clear hoo heq
                have HQ3 := hq
                go_wp2_with (first
                  | ((with_reducible refine gate_dst (N := 57) rfl ?_); refine eql_arr rfl 55 56 _ rfl o2 out rfl rfl HS2.out.len hol ?_; rw [HQ3])
                  | ((with_reducible refine gate_dst (N := 55) rfl ?_); refine load_arr rfl (.tmp 5) rfl (w.heap.size + 1 + 1 + 1) o2 rfl HS2.out.o HS2.out.len ?_)
                  | ((with_reducible refine gate_dst (N := 56) rfl ?_); refine load_arr rfl (.tmp 7) rfl bB out rfl HB2.out hol ?_)
                  | ((with_reducible refine gate_dst (N := 58) rfl ?_); refine load_arr rfl (.tmp 5) rfl (w.heap.size + 1 + 1 + 1) o2 rfl HS2.out.o HS2.out.len ?_)
                  | ((with_reducible refine gate_store (t := 93) (p := 4) rfl ?_); refine store_arr rfl (.tmp 4) (.tmp 58) rfl (w.heap.size + 1 + 1) o2 (List.replicate 20 0) rfl rfl HS2.out.res HS2.out.len rfl ?_; intro Wf hb1 hg1; have HBf := Lib.hid hb1; have HGf := Lib.hid hg1; clear hb1 hg1))
                refine bodyPost_ret (results_cell_row rfl _ _ (w.heap.size + 1 + 1) 93 (arr o2) (0, 0) _ rfl HBf.out Try.underlying93 rfl (by rw [info93]; simp [arr, HS2.out.len])) rfl ?_
                have hrr : out = r := by have := HT.out; rw [latF, HST.out, if_pos HOO.out] at this; injection this
                exact ⟨by rw [HOO.out, hrr], by rw [← hrr]; exact hol, below_grown HS2.out.g HGf.out (fun r e => by cases e; omega)⟩
              · have hq : (o2 == out) = false := by simp [hoo]
                rw [hq] at heq
                have HOO := Lib.hid hoo
                clear hoo heq
                have HQ3 := hq
                go_wp2_with (first
                  | ((with_reducible refine gate_dst (N := 57) rfl ?_); refine eql_arr rfl 55 56 _ rfl o2 out rfl rfl HS2.out.len hol ?_; rw [HQ3])
                  | ((with_reducible refine gate_dst (N := 55) rfl ?_); refine load_arr rfl (.tmp 5) rfl (w.heap.size + 1 + 1 + 1) o2 rfl HS2.out.o HS2.out.len ?_)
                  | ((with_reducible refine gate_dst (N := 56) rfl ?_); refine load_arr rfl (.tmp 7) rfl bB out rfl HB2.out hol ?_))
                go_roundg k1
                case rel => exact ⟨o2, ⟨HS2.out⟩, ⟨by have := HT.out; rw [latF, HST.out, if_neg HOO.out] at this; exact this⟩⟩
                case measure => omega
end Go.Proofs.Ytfhmepdbbhcncaa.P

namespace Go.Proofs.Ytfhmepdbbhcncaa.P
open Go.RowKit Go.Shelf Go.Proofs.YtfhmepdbbhcncaaW.PrintWords Go.Proofs.YtfhmepdbbhcncaaW.PrintLast Go.Proofs.YtfhmepdbbhcncaaW.PrintMore Go.Proofs.YtfhmepdbbhcncaaM Go.Proofs.YtfhmepdbbhcncaaR
set_option linter.unusedVariables false
set_option linter.unusedSimpArgs false

def risesB (len : Nat) : List Int → Int → Bool
  | [], _ => true
  | i :: is, last => if i ≤ last ∨ (len : Int) ≤ i then false else risesB len is i
theorem risesB_mem (len : Nat) : ∀ (is : List Int) (last : Int), risesB len is last = true → -1 ≤ last → ∀ i ∈ is, 0 ≤ i ∧ i < (len : Int)
  | [], _, _, _, i, hi => by cases hi
  | j :: js, last, h, h0, i, hi => by
    rw [risesB] at h
    split at h
    · cases h
    · rename_i hn
      rcases List.mem_cons.1 hi with rfl | h1
      · omega
      · exact risesB_mem len js j h (by omega) i h1
def minL (a b : List Int) : List Int := (List.range 20).map fun v => min (a.getD v 0) (b.getD v 0)
def upF (l : List S58) : List Int → List Int → Option (List Int)
  | [], up => some up
  | i :: is, up => match latF l 1000 (lat0 (rd_T58 l i)) with | some t => upF l is (minL up t) | none => none
def startsT (up : List Int) : Nat → List S26
  | 0 => []
  | k + 1 => if 0 ≤ up.getD k 0 then startsT up k ++ [⟨(k : Int), up.getD k 0⟩] else startsT up k
def causesF (n : Int) (l : List S58) (sp : List Int) : Option (List S26 × Int) :=
  if checkYard n l ≠ 0 then some ([], checkYard n l) else if sp.length = 0 ∨ 40 < sp.length then some ([], 6) else if risesB l.length sp (-1) = false then some ([], 3) else
    match upF l sp (List.replicate 20 1048576) with
    | some up => some (startsT up n.toNat, 0)
    | none => none

theorem startsT_len (up : List Int) : ∀ k, (startsT up k).length ≤ k
  | 0 => Nat.le_refl _
  | k + 1 => by
    have := startsT_len up k
    rw [startsT]; split <;> (try simp) <;> omega
theorem latStep_len (l : List S58) : ∀ (o : List Int), (latStep l o).length = o.length := by
  unfold latStep
  induction l with
  | nil => intro o; rfl
  | cons m l ih => intro o; rw [List.foldl_cons, ih, latMove_len]
theorem latF_len (l : List S58) : ∀ (K : Nat) (o r : List Int), latF l K o = some r → r.length = o.length
  | 0, _, _, h => by simp [latF] at h
  | K + 1, o, r, h => by
    rw [latF] at h
    split at h
    · injection h with h; rw [h]
    · rw [latF_len l K _ _ h, latStep_len]
/-- the first k of the lesser ones -/
def minK (a b : List Int) (k : Nat) : List Int := (List.range 20).map fun v => if v < k then min (a.getD v 0) (b.getD v 0) else a.getD v 0
theorem minK_get (a b : List Int) (k v : Nat) (hv : v < 20) : (minK a b k).getD v 0 = if v < k then min (a.getD v 0) (b.getD v 0) else a.getD v 0 := by
  simp [minK, List.getD, hv]
theorem minK_zero (a b : List Int) (h : a.length = 20) : minK a b 0 = a := by
  apply List.ext_getElem
  · simp [minK, h]
  · intro j h1 h2
    simp [minK, List.getD, h2]
theorem minK_succ (a b : List Int) (k : Nat) (hk : k < 20) : (minK a b k).set k (min (a.getD k 0) (b.getD k 0)) = minK a b (k + 1) := by
  apply List.ext_getElem
  · simp [minK]
  · intro j h1 h2
    have hj : j < 20 := by simpa [minK] using h2
    rw [List.getElem_set]
    by_cases e : k = j
    · subst e; simp [minK]
    · rw [if_neg e]
      simp only [minK, List.getElem_map, List.getElem_range]
      by_cases h3 : j < k
      · rw [if_pos h3, if_pos (by omega)]
      · rw [if_neg h3, if_neg (by omega)]
theorem minK_all (a b : List Int) : minK a b 20 = minL a b := by
  unfold minK minL
  apply List.map_congr_left
  intro v hv
  rw [if_pos (List.mem_range.1 hv)]

set_option maxRecDepth 100000 in
theorem index93 (t : List Int) (hl : t.length = 20) (j : Nat) (hj : j < 20) (W : World) : (Instr.index 93 (.agg (arr t)) (.int .i64 (j : Int))).run Try.prog W = .ok (.int .i64 (t.getD j 0)) W := by
  have hs : (Go.sizeOf 2).run Try.prog W = .ok 1 W := Try.sizeOf2 W
  have hp := part2 t j (by omega) W
  have hc : Try.prog.cellsOf 2 = 1 := by kernel_rfl
  rw [hc] at hp
  have hj2 : (j : Int) < 20 := by omega
  simp [Instr.index, asIntOf, Sem.run_bind, run_underlying Try.underlying93, hs, hj2, Result.andThen]
  rw [if_pos hj]
  simpa using hp

structure CauS (w W : World) (n : Int) (sl : Value) (bU : Nat) (up : List Int) : Prop where
  y : Blk W w.heap.size 24 #[.int .i64 n, sl]
  o : Blk W bU 93 (arr up)
  len : up.length = 20
  g : Below w.heap.size w W
  hb : w.heap.size < bU
section
variable {w W W' : World} {n : Int} {sl : Value} {bU : Nat} {up : List Int}
theorem CauS.kept (h : CauS w W n sl bU up) (hg : W.grownBy W' none) : CauS w W' n sl bU up :=
  ⟨h.y.kept hg (by simp), h.o.kept hg (by simp), h.len, below_grown h.g hg (fun r e => by cases e), h.hb⟩
theorem CauS.set (h : CauS w W n sl bU up) (v : Nat) (hv : v < 20) (t : Int) : CauS w (W.setCell ⟨bU, v, none⟩ (.int .i64 t)) n sl bU (up.set v t) := by
  have hg := grown_set W bU v (.int .i64 t)
  have hl := h.len
  have hb := h.hb
  refine ⟨h.y.kept hg (by simp; omega), ?_, by simpa using hl, below_grown h.g hg (fun r e => by cases e; omega), hb⟩
  have := h.o.set v (.int .i64 t)
  have e : (arr up).setIfInBounds v (.int .i64 t) = arr (up.set v t) := by
    simp [arr, List.map_set]
  rw [e] at this
  exact this
theorem CauS.c (h : CauS w W n sl bU up) (v : Nat) (hv : v < 20) : W.cell? ⟨bU, v, none⟩ = some (.int .i64 (up.getD v 0)) := by
  have hl := h.len
  rw [h.o.cell]
  simp [arr, List.getD, show v < up.length by omega]
theorem CauS.fz (h : CauS w W n sl bU up) (v : Nat) : W.frozen? ⟨bU, v, none⟩ = false := h.o.fz v
end

set_option maxHeartbeats 4000000 in
set_option maxRecDepth 100000 in
theorem causes_calls (n : Int) (A : Option Addr) (c : Nat) (l : List S58) (As : Option Addr) (cs : Nat) (sp : List Int) (r1 : List S26) (r2 : Int) (w : World) (hr : Kd.C k58 w A l.length l) (hs : Kd.C (Kd.int .i64) w As sp.length sp) (h : causesF n l sp = some (r1, r2)) :
    Calls Try.prog 34 #[.agg #[.int .i64 n, .slice A l.length c], .slice As sp.length cs] w fun e w' => ∃ v0, e = .returned (.tuple #[v0, .int .i64 r2]) ∧ Kd.R k26 26 w' w.heap.size (fun _ => True) v0 r1 ∧ Below w.heap.size w w' := by
  have HR := Lib.hid hr
  have HSP := Lib.hid hs
  have hlm := hr.2.1
  have hsm := hs.2.1
  have hbx : Below w.heap.size w (w.alloc (.cells #[.int .i64 n, .slice A l.length c] 24)) := (Below.refl _ _).alloc (Nat.le_refl _) _
  have HCY := Lib.hid (checkYard_calls n A c l _ (Kd.C_below hr hbx))
  have HBX := Lib.hid hbx
  have HY0 := Lib.hid (Blk.new w #[.int .i64 n, .slice A l.length c] 24)
  have hsz : (w.alloc (.cells #[.int .i64 n, .slice A l.length c] 24)).heap.size = w.heap.size + 1 := by simp
  have HSZ := Lib.hid hsz
  unfold causesF at h
  have HF := Lib.hid h
  clear hr hs hbx h hsz
  obtain ⟨e0, he0⟩ : ∃ e0, checkYard n l = e0 := ⟨_, rfl⟩
  rw [he0] at HCY HF
  by_cases h0 : e0 = 0
  · have hq0 : (e0 != 0) = false := by simp [h0]
    have hf := HF.out
    rw [if_neg (by simp [h0])] at hf
    have HYD := Lib.hid (yardOK (he0.trans h0))
    clear h0 HF he0
    by_cases hl0 : sp.length = 0
    · have hf := hf
      rw [if_pos (.inl hl0)] at hf
      simp only [Option.some.injEq, Prod.mk.injEq] at hf
      obtain ⟨rfl, rfl⟩ := hf
      have hd : ((sp.length : Int) == 0) = true := by simp [hl0]
      have hd2 : (sp.length == 0) = true := by simp [hl0]
      clear hl0
      go_enter Try.func34, Try.ntmps34
      go_wp2_with (go_at_call 16; refine (HCY.out).mono ?_; rintro e w' ⟨rfl, hb1⟩; have HB1 := Lib.hid hb1; clear hb1)
      go_ret2
      exact ⟨.slice none 0 0, rfl, Kd.R_nil _ _ _ _ _, below_then HBX.out HBX.out.size HB1.out⟩
    · by_cases hl4 : 40 < sp.length
      · rw [if_pos (.inr hl4)] at hf
        simp only [Option.some.injEq, Prod.mk.injEq] at hf
        obtain ⟨rfl, rfl⟩ := hf
        have hd : ((sp.length : Int) == 0) = false := beq_eq_false_iff_ne.2 (by omega)
        have hd1 : decide ((sp.length : Int) > 40) = true := decide_eq_true (by omega)
        clear hl0
        go_enter Try.func34, Try.ntmps34
        go_wp2_with (go_at_call 16; refine (HCY.out).mono ?_; rintro e w' ⟨rfl, hb1⟩; have HB1 := Lib.hid hb1; clear hb1)
        go_ret2
        exact ⟨.slice none 0 0, rfl, Kd.R_nil _ _ _ _ _, below_then HBX.out HBX.out.size HB1.out⟩
      · rw [if_neg (by omega)] at hf
        have HF := Lib.hid hf
        have hd : ((sp.length : Int) == 0) = false := beq_eq_false_iff_ne.2 (by omega)
        have hd1 : decide ((sp.length : Int) > 40) = false := decide_eq_false (by omega)
        clear hf
        go_enter Try.func34, Try.ntmps34
        go_wp2_with (go_at_call 16; refine (HCY.out).mono ?_; rintro e w' ⟨rfl, hb1⟩; have HB1 := Lib.hid hb1; clear hb1)
        have HY1 := Lib.hid (HY0.out.below HB1.out HY0.out.lt)
        have HW1 := Lib.hid (below_then HBX.out HBX.out.size HB1.out)
        have hsz1 : w.heap.size + 1 ≤ w'.heap.size := by have := HB1.out.size; rw [HSZ.out] at this; exact this
        clear HB1 HY0 HBX HCY HSZ
        go_loopg [7, 34] sp.length (fun kq v7 v34 W => ∃ (k : Nat) (last : Int), W = w' ∧ v34 = .int .i64 k ∧ v7 = .int .i64 last ∧ Aside0 (k + kq = sp.length) ∧ Aside0 (risesB l.length (sp.drop k) last = risesB l.length sp (-1)))
        case atStart => exact ⟨0, -1, rfl, rfl, rfl, ⟨by omega⟩, ⟨rfl⟩⟩
        case round =>
          obtain ⟨k, last, rfl, rfl, rfl, HN, HRB⟩ := hrel
          cases gk with
          | succ k1 =>
            have hlt : k < sp.length := by have := HN.out; omega
            have hlt4 : decide ((k : Int) < (sp.length : Int)) = true := decide_eq_true (by omega)
            have hlt5 : decide (k < sp.length) = true := decide_eq_true hlt
            have hT := Kd.C_below HSP.out HW1.out
            obtain ⟨adt, et, hct⟩ := Kd.at_int hT (k : Int) (by omega) (by omega)
            cases et
            rw [Int.toNat_natCast] at hct
            have hrd : rd sp (k : Int) = sp[k] := by rw [rd_nat sp k hlt]
            rw [hrd] at hct
            have hw := HRB.out
            rw [List.drop_eq_getElem_cons hlt, risesB] at hw
            generalize sp[k] = i at *
            have cy : wr.cell? ⟨w.heap.size, 1, none⟩ = some (.slice A l.length c) := HY1.out.cell 1
            clear hT hrd HRB
            by_cases hbad : i ≤ last ∨ (l.length : Int) ≤ i
            · rw [if_pos hbad] at hw
              have hf := HF.out
              rw [if_pos hw.symm] at hf
              simp only [Option.some.injEq, Prod.mk.injEq] at hf
              obtain ⟨rfl, rfl⟩ := hf
              by_cases hil : i ≤ last
              · have hq1 : decide (i ≤ last) = true := decide_eq_true hil
                clear hbad hw
                go_wp2_with fail
                go_ret2
                exact ⟨.slice none 0 0, rfl, Kd.R_nil _ _ _ _ _, HW1.out⟩
              · have hq1 : decide (i ≤ last) = false := decide_eq_false hil
                have hq2 : decide (i ≥ (l.length : Int)) = true := decide_eq_true (by omega)
                have hq3 : decide ((l.length : Int) ≤ i) = true := decide_eq_true (by omega)
                clear hbad hw
                go_wp2_with fail
                go_ret2
                exact ⟨.slice none 0 0, rfl, Kd.R_nil _ _ _ _ _, HW1.out⟩
            · rw [if_neg hbad] at hw
              have hq1 : decide (i ≤ last) = false := decide_eq_false (by omega)
              have hq2 : decide (i ≥ (l.length : Int)) = false := decide_eq_false (by omega)
              have hq3 : decide ((l.length : Int) ≤ i) = false := decide_eq_false (by omega)
              have HW2 := Lib.hid hw
              clear hbad hw
              go_wp2_with fail
              go_roundg k1
              case rel => exact ⟨k + 1, i, rfl, by go_num, rfl, ⟨by have := HN.out; omega⟩, ⟨HW2.out⟩⟩
              case measure => omega
          | zero =>
            have hk : k = sp.length := by have := HN.out; omega
            subst hk
            have hlt4 : decide ((sp.length : Int) < (sp.length : Int)) = false := decide_eq_false (by omega)
            have hlt5 : decide (sp.length < sp.length) = false := decide_eq_false (by omega)
            have hrb := HRB.out
            rw [List.drop_length, risesB] at hrb
            have hf := HF.out
            rw [if_neg (by rw [← hrb]; simp)] at hf
            have HMEM := Lib.hid (risesB_mem l.length sp (-1) hrb.symm (by omega))
            have HF2 := Lib.hid hf
            clear hf hrb HRB HF
            have hS0 := Lib.hid (show CauS w (wr.alloc (.cells (arr (List.replicate 20 0)) 93)) n (.slice A l.length c) wr.heap.size (List.replicate 20 0) from
              ⟨HY1.out.alloc _, Blk.new wr _ 93, by simp, HW1.out.alloc HW1.out.size _, by omega⟩)
            go_wp2_with fail
            have hwr : w.heap.size < wr.heap.size := by omega
            generalize wr.heap.size = bU at *
            go_loopg [50] 20 (fun kq v50 W => ∃ (k : Nat) (up : List Int), v50 = .int .i64 k ∧ Aside0 (k + kq = 20) ∧ Aside0 (CauS w W n (.slice A l.length c) bU up) ∧ Aside0 (∀ j, j < k → up.getD j 0 = 1048576))
            case atStart => exact ⟨0, List.replicate 20 0, rfl, ⟨by omega⟩, ⟨hS0.out⟩, ⟨fun j hj => absurd hj (by omega)⟩⟩
            case round =>
              obtain ⟨k, up, rfl, HN3, HS, HC⟩ := hrel
              cases gk with
              | succ k1 =>
                have hk : (k : Int) < 20 := by have := HN3.out; omega
                have hc := HS.out.c k (by omega)
                have hf := HS.out.fz k
                go_wp2
                go_roundg k1
                case rel => exact ⟨k + 1, _, by go_num, ⟨by have := HN3.out; omega⟩, ⟨HS.out.set k (by omega) 1048576⟩, ⟨fun j hj => by
                  have hl2 := HS.out.len
                  by_cases e : j = k
                  · subst e; rw [List.getD_eq_getElem?_getD, List.getElem?_set_self (by omega)]; rfl
                  · have := HC.out j (by omega); simpa [List.getElem?_set, Ne.symm e] using this⟩⟩
                case measure => omega
              | zero =>
                have hk : k = 20 := by have := HN3.out; omega
                have HCM : up = List.replicate 20 1048576 := by
                  have hl2 := HS.out.len
                  apply List.ext_getElem
                  · simp [hl2]
                  · intro j h1 h2
                    have := HC.out j (by omega)
                    rw [List.getElem_replicate]
                    simpa [h1] using this
                subst HCM hk
                clear HC hS0
                have HS1 := HS
                go_wp2_with fail
                go_loopg [58] sp.length (fun kq v58 W => ∃ (k : Nat) (up : List Int), v58 = .int .i64 k ∧ Aside0 (k + kq = sp.length) ∧ Aside0 (CauS w W n (.slice A l.length c) bU up) ∧ Aside0 (upF l (sp.drop k) up = upF l sp (List.replicate 20 1048576)))
                case atStart => exact ⟨0, List.replicate 20 1048576, rfl, ⟨by omega⟩, ⟨HS1.out⟩, ⟨rfl⟩⟩
                case round =>
                  clear HS1 HS
                  obtain ⟨k, up, rfl, HN4, HS, HU⟩ := hrel
                  cases gk with
                  | succ k1 =>
                    have hlt : k < sp.length := by have := HN4.out; omega
                    have hlt4 : decide ((k : Int) < (sp.length : Int)) = true := decide_eq_true (by omega)
                    have hlt5 : decide (k < sp.length) = true := decide_eq_true hlt
                    have hT := Kd.C_below HSP.out HS.out.g
                    obtain ⟨adt, et, hct⟩ := Kd.at_int hT (k : Int) (by omega) (by omega)
                    cases et
                    rw [Int.toNat_natCast] at hct
                    have hrd : rd sp (k : Int) = sp[k] := by rw [rd_nat sp k hlt]
                    rw [hrd] at hct
                    have hi := HMEM.out sp[k] (List.getElem_mem hlt)
                    have hu := HU.out
                    rw [List.drop_eq_getElem_cons hlt, upF] at hu
                    generalize sp[k] = i at *
                    have hi1 := hi.1
                    have hi2 := hi.2
                    have hi3 : i.toNat < l.length := by omega
                    have hC := Kd.C_below HR.out HS.out.g
                    obtain ⟨ad, e0, hc0, hc1, hc2, hc3⟩ := at_T58 hC i hi.1 hi.2
                    cases e0
                    have hmem : rd_T58 l i ∈ l := by
                      have : i = ((i.toNat : Nat) : Int) := by omega
                      rw [this, rd_T58_nat l i.toNat hi3]; exact List.getElem_mem hi3
                    generalize rd_T58 l i = m at *
                    cases hlat : latF l 1000 (lat0 m) with
                    | none =>
                      rw [hlat] at hu
                      have := HF2.out
                      rw [← hu] at this
                      cases this
                    | some t =>
                      rw [hlat] at hu
                      have HU2 := Lib.hid hu
                      have HLC := Lib.hid (fun (d : Nat) (os : Array Obj) => latest_calls n (some ad) c l m t 1000 (Go.«Sort».grow (redrawn wr d) os) (Kd.C_below hC (below_regrown wr d os)) HYD.out hmem hlat)
                      have gy0 := cell_regrown (show wr.cell? ⟨w.heap.size, 0, none⟩ = some (.int .i64 n) from HS.out.y.cell 0)
                      have gy1 := cell_regrown (show wr.cell? ⟨w.heap.size, 1, none⟩ = some (.slice (some ad) l.length c) from HS.out.y.cell 1)
                      have gm0 := cell_regrown hc0
                      have gm1 := cell_regrown hc1
                      have gm2 := cell_regrown hc2
                      have gm3 := cell_regrown hc3
                      have e58 : enc58 m = .agg #[.int .i64 m.f0, .int .i64 m.f1, .int .i64 m.f2.f0, .int .i64 m.f2.f1] := rfl
                      rw [e58] at HLC
                      clear hu hc1 hc2 hc3 hC hmem e58 HU hrd hT
                      go_upto_region 23 with (fail)
                      clear hct hc0
                      refine wp_region_quiet_below (by kernel_rfl) (by kernel_rfl) ?_
                      repeat (go_big_quiet_step ((go_at_call 68; exact Calls.regrown_of ((HLC.out _ _).mono (fun e w' h => ⟨h.1, h.2.2⟩)))))
                      refine wpQuiet_nil ?_
                      intro _ hw'
                      obtain ⟨⟨dq, osq⟩, hw''⟩ := hw'
                      subst hw''
                      have HS2 := Lib.hid (HS.out.kept (grown_of_below (below_regrown wr dq osq) none))
                      clear gy0 gy1 gm0 gm1 gm2 gm3 HLC HS
                      generalize Go.«Sort».grow (redrawn wr dq) osq = W2 at *
                      have htl : t.length = 20 := by rw [latF_len l 1000 _ _ hlat]; simp [lat0]
                      go_wp2_with fail
                      go_loopg [69] 20 (fun kq v69 W => ∃ (j : Nat), v69 = .int .i64 j ∧ Aside0 (j + kq = 20) ∧ Aside0 (CauS w W n (.slice (some ad) l.length c) bU (minK up t j)))
                      case atStart => exact ⟨0, rfl, ⟨by omega⟩, ⟨by rw [minK_zero _ _ HS2.out.len]; exact HS2.out⟩⟩
                      case round =>
                        clear HS2
                        obtain ⟨j, rfl, HN5, HS3⟩ := hrel
                        cases gk with
                        | succ k2 =>
                          have hj : (j : Int) < 20 := by have := HN5.out; omega
                          have hj2 : j < 20 := by omega
                          have hc := HS3.out.c j hj2
                          rw [minK_get _ _ _ _ hj2, if_neg (by omega)] at hc
                          have hf := HS3.out.fz j
                          have hix := index93 t htl j hj2
                          have hms := minK_succ up t j hj2
                          generalize up.getD j 0 = ua at hc hms
                          generalize t.getD j 0 = ta at hix hms
                          have HS4 := Lib.hid (HS3.out.set j hj2 (min ua ta))
                          rw [hms] at HS4
                          clear hms
                          go_wp2_with fail
                          go_roundg k2
                          case rel => exact ⟨j + 1, by go_num, ⟨by have := HN5.out; omega⟩, ⟨HS4.out⟩⟩
                          case measure => omega
                        | zero =>
                          have hj : j = 20 := by have := HN5.out; omega
                          subst hj
                          have hs := HS3.out
                          rw [minK_all] at hs
                          have HS4 := Lib.hid hs
                          clear hs HS3
                          go_wp2_with fail
                          go_roundg k1
                          case rel => exact ⟨k + 1, minL up t, by go_num, ⟨by have := HN4.out; omega⟩, ⟨HS4.out⟩, ⟨HU2.out⟩⟩
                          case measure => omega
                  | zero =>
                    have hk : k = sp.length := by have := HN4.out; omega
                    subst hk
                    have hlt4 : decide ((sp.length : Int) < (sp.length : Int)) = false := decide_eq_false (by omega)
                    have hlt5 : decide (sp.length < sp.length) = false := decide_eq_false (by omega)
                    have hu := HU.out
                    rw [List.drop_length, upF] at hu
                    have hf := HF2.out
                    rw [← hu] at hf
                    simp only [Option.some.injEq, Prod.mk.injEq] at hf
                    obtain ⟨hr1, rfl⟩ := hf
                    have HR1 := Lib.hid hr1
                    have hn1 := HYD.out.n1
                    have hn2 := HYD.out.n2
                    have hn0 : 0 ≤ n := by omega
                    have hcn : wr.cell? ⟨w.heap.size, 0, none⟩ = some (.int .i64 n) := HS.out.y.cell 0
                    clear hr1 hu HU
                    go_wp2_with fail
                    clear hcn
                    generalize hwz : wr = Wz at *
                    go_loopg [16, 86] n.toNat (fun kq v16 v86 W => ∃ (k : Nat), v86 = .int .i64 k ∧ Aside0 (k + kq = n.toNat) ∧ Aside0 (Kd.R k26 26 W Wz.heap.size (fun _ => True) v16 (startsT up k)) ∧ Aside0 (Below Wz.heap.size Wz W))
                    case atStart => exact ⟨0, rfl, ⟨by omega⟩, ⟨Kd.R_nil _ _ _ _ _⟩, ⟨Below.refl _ _⟩⟩
                    case round =>
                      obtain ⟨k, rfl, HN6, HL2, HB2⟩ := hrel
                      cases gk with
                      | succ k1 =>
                        have hlt : (k : Int) < n := by have := HN6.out; omega
                        have hk20 : k < 20 := by omega
                        have hlt2 : k < n.toNat := by omega
                        have hc : wr.cell? ⟨bU, k, none⟩ = some (.int .i64 (up.getD k 0)) := cell_in HB2.out (HS.out.c k hk20)
                        have HLEN := Aside0.mk (startsT_len up k)
                        obtain ⟨t, ht⟩ : ∃ t, up.getD k 0 = t := ⟨_, rfl⟩
                        rw [ht] at hc
                        have HT := Lib.hid ht
                        clear ht
                        have hl7 : decide ((k : Int) < n) = true := decide_eq_true hlt
                        by_cases hne : 0 ≤ t
                        · have hq : decide (t ≥ 0) = true := decide_eq_true hne
                          have HQ := Lib.hid hne
                          clear hne
                          go_wp2_with ((with_reducible refine gate_builtin (b := .append) (xs := #[.tmp 93, .tmp 97]) rfl ?_); at_builtin; refine Kd.R_append k26 (w0 := Wz) Wz.heap.size rfl (.tmp 93) (.tmp 97) 46 26 (.agg #[(.int .i64 0), (.int .i64 0)]) 16 rfl Try.underlying46 info26 rfl (by decide) (by omega) u16 (startsT up k) (⟨(k : Int), t⟩ : S26) [.int .i64 (k : Int), .int .i64 t] (fun _ => True) (fun _ => False) rfl rfl ?aP (fun _ hk => hk.elim) ?aF ?aO ?aB ?aS ?aL ?_; (case aP => exact k26_mkM _ _ _ (⟨(k : Int), t⟩ : S26)); (case aB => exact HB2.out); (case aF => exact (fun _ _ => trivial)); (case aO => exact HL2.out); (case aS => exact HB2.out.size); (case aL => have := HLEN.out; omega); intro v7 w24 ho hb hg hat; have HO7 := Aside0.mk ho; have HB7 := Aside0.mk hb; clear ho hb hg hat)
                          go_roundg k1
                          case rel => exact ⟨k + 1, by go_num, ⟨by have := HN6.out; omega⟩, ⟨by rw [startsT, HT.out, if_pos HQ.out]; exact HO7.out⟩, HB7⟩
                          case measure => omega
                        · have hq : decide (t ≥ 0) = false := decide_eq_false hne
                          have HQ := Lib.hid hne
                          clear hne
                          go_wp2_with fail
                          go_roundg k1
                          case rel => exact ⟨k + 1, by go_num, ⟨by have := HN6.out; omega⟩, ⟨by rw [startsT, HT.out, if_neg (by have := HQ.out; omega)]; exact HL2.out⟩, HB2⟩
                          case measure => omega
                      | zero =>
                        have hk : k = n.toNat := by have := HN6.out; omega
                        have hl7 : decide ((k : Int) < n) = false := decide_eq_false (by omega)
                        go_wp2_with fail
                        go_ret2
                        refine ⟨_, rfl, ?_, below_then HS.out.g HS.out.g.size HB2.out⟩
                        rw [← HR1.out, ← hk]
                        exact Kd.R_lower HL2.out HS.out.g.size
  · have hq0 : (e0 != 0) = true := by simp [h0]
    have hf := HF.out
    rw [if_pos h0] at hf
    simp only [Option.some.injEq, Prod.mk.injEq] at hf
    obtain ⟨rfl, rfl⟩ := hf
    clear h0 HF he0
    go_enter Try.func34, Try.ntmps34
    go_wp2_with (go_at_call 16; refine (HCY.out).mono ?_; rintro e w' ⟨rfl, hb1⟩; have HB1 := Lib.hid hb1; clear hb1)
    go_ret2
    exact ⟨.slice none 0 0, rfl, Kd.R_nil _ _ _ _ _, below_then HBX.out HBX.out.size HB1.out⟩
end Go.Proofs.Ytfhmepdbbhcncaa.P

namespace Go.Proofs.Ytfhmepdbbhcncaa.P
open Go.RowKit Go.Shelf Go.Proofs.YtfhmepdbbhcncaaW.PrintWords Go.Proofs.YtfhmepdbbhcncaaW.PrintLast Go.Proofs.YtfhmepdbbhcncaaW.PrintMore Go.Proofs.YtfhmepdbbhcncaaM Go.Proofs.YtfhmepdbbhcncaaR
set_option linter.unusedVariables false
set_option linter.unusedSimpArgs false

/-! The program's functions in the form in which printed callers want them. -/
def taint_CheckYard.f (a0_0 : Int) (l0_1 : List S58) : Option Int := some (checkYard a0_0 l0_1)
def taint_CheckTrail.f (a0_0 : Int) (l0_1 : List S58) (a1_0 a1_1 a2 : Int) (l3 : List Int) (a4 : Bool) : Option Int := some (checkTrailF a0_0 l0_1 a1_0 a1_1 a2 l3 a4)
theorem taint_CheckTrail.calls (a0_0 : Int) (A0_1 : Option Addr) (c0_1 : Nat) (l0_1 : List S58) (a1_0 a1_1 a2 : Int) (A3 : Option Addr) (c3 : Nat) (l3 : List Int) (a4 : Bool) (r : Int) (w : World) (hr0_1 : Kd.C k58 w A0_1 l0_1.length l0_1) (hc0_1 : l0_1.length ≤ c0_1)
    (hr3 : Kd.C (Kd.int .i64) w A3 l3.length l3) (hc3 : l3.length ≤ c3) (h : taint_CheckTrail.f a0_0 l0_1 a1_0 a1_1 a2 l3 a4 = some r) :
    Calls Try.prog 18 #[.agg #[.int .i64 a0_0, .slice A0_1 l0_1.length c0_1], .agg #[.int .i64 a1_0, .int .i64 a1_1], .int .i64 a2, .slice A3 l3.length c3, .bool a4] w fun e w' => e = .returned (.int .i64 r) ∧ Below w.heap.size w w' := by
  injection h with h; subst h
  exact checkTrail_calls a0_0 A0_1 c0_1 l0_1 a1_0 a1_1 a2 A3 c3 l3 a4 w hr0_1 hr3
def taint_CheckArrivals.f (a0_0 : Int) (l0_1 : List S58) (a1_0 a1_1 : Int) (l2 : List Int) : Option Int := some (checkArrF a0_0 l0_1 a1_0 a1_1 l2)
theorem taint_CheckArrivals.calls (a0_0 : Int) (A0_1 : Option Addr) (c0_1 : Nat) (l0_1 : List S58) (a1_0 a1_1 : Int) (A2 : Option Addr) (c2 : Nat) (l2 : List Int) (r : Int) (w : World) (hr0_1 : Kd.C k58 w A0_1 l0_1.length l0_1) (hc0_1 : l0_1.length ≤ c0_1)
    (hr2 : Kd.C (Kd.int .i64) w A2 l2.length l2) (hc2 : l2.length ≤ c2) (h : taint_CheckArrivals.f a0_0 l0_1 a1_0 a1_1 l2 = some r) :
    Calls Try.prog 20 #[.agg #[.int .i64 a0_0, .slice A0_1 l0_1.length c0_1], .agg #[.int .i64 a1_0, .int .i64 a1_1], .slice A2 l2.length c2] w fun e w' => e = .returned (.int .i64 r) ∧ Below w.heap.size w w' := by
  injection h with h; subst h
  exact checkArrivals_calls a0_0 A0_1 c0_1 l0_1 a1_0 a1_1 A2 c2 l2 w hr0_1 hr2
def taint_Arrivals.f (a0_0 : Int) (l0_1 : List S58) (a1_0 a1_1 : Int) : Option (List Int × Int) := some (arrL a0_0 l0_1 a1_0 a1_1, openE a0_0 l0_1 a1_0 a1_1 [])
theorem taint_Arrivals.calls (a0_0 : Int) (A0_1 : Option Addr) (c0_1 : Nat) (l0_1 : List S58) (a1_0 a1_1 : Int) (r1 : List Int) (r2 : Int) (w : World) (hr0_1 : Kd.C k58 w A0_1 l0_1.length l0_1) (hc0_1 : l0_1.length ≤ c0_1) (h : taint_Arrivals.f a0_0 l0_1 a1_0 a1_1 = some (r1, r2)) :
    Calls Try.prog 22 #[.agg #[.int .i64 a0_0, .slice A0_1 l0_1.length c0_1], .agg #[.int .i64 a1_0, .int .i64 a1_1]] w fun e w' => ∃ v0_ : Value, e = .returned (.tuple #[v0_, .int .i64 r2]) ∧ Kd.R (Kd.int .i64) 2 w' w.heap.size (fun _ => True) v0_ r1 ∧ Below w.heap.size w w' := by
  unfold taint_Arrivals.f at h
  simp only [Option.some.injEq, Prod.mk.injEq] at h
  obtain ⟨rfl, rfl⟩ := h
  exact arrivals_calls a0_0 A0_1 c0_1 l0_1 a1_0 a1_1 w hr0_1
def taint_Carried.f (a0_0 : Int) (l0_1 : List S58) (a1_0 a1_1 : Int) : Option (List Int × Int) := some (carL a0_0 l0_1 a1_0 a1_1, openE a0_0 l0_1 a1_0 a1_1 [])
theorem taint_Carried.calls (a0_0 : Int) (A0_1 : Option Addr) (c0_1 : Nat) (l0_1 : List S58) (a1_0 a1_1 : Int) (r1 : List Int) (r2 : Int) (w : World) (hr0_1 : Kd.C k58 w A0_1 l0_1.length l0_1) (hc0_1 : l0_1.length ≤ c0_1) (h : taint_Carried.f a0_0 l0_1 a1_0 a1_1 = some (r1, r2)) :
    Calls Try.prog 24 #[.agg #[.int .i64 a0_0, .slice A0_1 l0_1.length c0_1], .agg #[.int .i64 a1_0, .int .i64 a1_1]] w fun e w' => ∃ v0_ : Value, e = .returned (.tuple #[v0_, .int .i64 r2]) ∧ Kd.R (Kd.int .i64) 3 w' w.heap.size (fun _ => True) v0_ r1 ∧ Below w.heap.size w w' := by
  unfold taint_Carried.f at h
  simp only [Option.some.injEq, Prod.mk.injEq] at h
  obtain ⟨rfl, rfl⟩ := h
  exact carried_calls a0_0 A0_1 c0_1 l0_1 a1_0 a1_1 w hr0_1
def taint_Sure.f (a0_0 : Int) (l0_1 : List S58) (a1_0 a1_1 : Int) : Option (List Int × Int) := some (sureL a0_0 l0_1 a1_0 a1_1, openE a0_0 l0_1 a1_0 a1_1 [])
theorem taint_Sure.calls (a0_0 : Int) (A0_1 : Option Addr) (c0_1 : Nat) (l0_1 : List S58) (a1_0 a1_1 : Int) (r1 : List Int) (r2 : Int) (w : World) (hr0_1 : Kd.C k58 w A0_1 l0_1.length l0_1) (hc0_1 : l0_1.length ≤ c0_1) (h : taint_Sure.f a0_0 l0_1 a1_0 a1_1 = some (r1, r2)) :
    Calls Try.prog 26 #[.agg #[.int .i64 a0_0, .slice A0_1 l0_1.length c0_1], .agg #[.int .i64 a1_0, .int .i64 a1_1]] w fun e w' => ∃ v0_ : Value, e = .returned (.tuple #[v0_, .int .i64 r2]) ∧ Kd.R (Kd.int .i64) 3 w' w.heap.size (fun _ => True) v0_ r1 ∧ Below w.heap.size w w' := by
  unfold taint_Sure.f at h
  simp only [Option.some.injEq, Prod.mk.injEq] at h
  obtain ⟨rfl, rfl⟩ := h
  exact sure_calls a0_0 A0_1 c0_1 l0_1 a1_0 a1_1 w hr0_1
def taint_Passed.f (a0_0 : Int) (l0_1 : List S58) (a1_0 a1_1 a2 : Int) : Option (List Int × Int) := passedF a0_0 l0_1 a1_0 a1_1 a2
theorem taint_Passed.calls (a0_0 : Int) (A0_1 : Option Addr) (c0_1 : Nat) (l0_1 : List S58) (a1_0 a1_1 a2 : Int) (r1 : List Int) (r2 : Int) (w : World) (hr0_1 : Kd.C k58 w A0_1 l0_1.length l0_1) (hc0_1 : l0_1.length ≤ c0_1) (h : taint_Passed.f a0_0 l0_1 a1_0 a1_1 a2 = some (r1, r2)) :
    Calls Try.prog 30 #[.agg #[.int .i64 a0_0, .slice A0_1 l0_1.length c0_1], .agg #[.int .i64 a1_0, .int .i64 a1_1], .int .i64 a2] w fun e w' => ∃ v0_ : Value, e = .returned (.tuple #[v0_, .int .i64 r2]) ∧ Kd.R (Kd.int .i64) 3 w' w.heap.size (fun _ => True) v0_ r1 ∧ Below w.heap.size w w' :=
  passed_calls a0_0 A0_1 c0_1 l0_1 a1_0 a1_1 a2 r1 r2 w hr0_1 h
def taint_Trail.f (a0_0 : Int) (l0_1 : List S58) (a1_0 a1_1 a2 : Int) : Option (List Int × Int) := trailF a0_0 l0_1 a1_0 a1_1 a2
theorem taint_Trail.calls (a0_0 : Int) (A0_1 : Option Addr) (c0_1 : Nat) (l0_1 : List S58) (a1_0 a1_1 a2 : Int) (r1 : List Int) (r2 : Int) (w : World) (hr0_1 : Kd.C k58 w A0_1 l0_1.length l0_1) (hc0_1 : l0_1.length ≤ c0_1) (h : taint_Trail.f a0_0 l0_1 a1_0 a1_1 a2 = some (r1, r2)) :
    Calls Try.prog 32 #[.agg #[.int .i64 a0_0, .slice A0_1 l0_1.length c0_1], .agg #[.int .i64 a1_0, .int .i64 a1_1], .int .i64 a2] w fun e w' => ∃ v0_ : Value, e = .returned (.tuple #[v0_, .int .i64 r2]) ∧ Kd.R (Kd.int .i64) 3 w' w.heap.size (fun _ => True) v0_ r1 ∧ Below w.heap.size w w' :=
  trail_calls a0_0 A0_1 c0_1 l0_1 a1_0 a1_1 a2 r1 r2 w hr0_1 h
def taint_Causes.f (a0_0 : Int) (l0_1 : List S58) (l1 : List Int) : Option (List S26 × Int) := causesF a0_0 l0_1 l1
theorem taint_Causes.calls (a0_0 : Int) (A0_1 : Option Addr) (c0_1 : Nat) (l0_1 : List S58) (A1 : Option Addr) (c1 : Nat) (l1 : List Int) (r1 : List S26) (r2 : Int) (w : World) (hr0_1 : Kd.C k58 w A0_1 l0_1.length l0_1) (hc0_1 : l0_1.length ≤ c0_1)
    (hr1 : Kd.C (Kd.int .i64) w A1 l1.length l1) (hc1 : l1.length ≤ c1) (h : taint_Causes.f a0_0 l0_1 l1 = some (r1, r2)) :
    Calls Try.prog 34 #[.agg #[.int .i64 a0_0, .slice A0_1 l0_1.length c0_1], .slice A1 l1.length c1] w fun e w' => ∃ v0_ : Value, e = .returned (.tuple #[v0_, .int .i64 r2]) ∧ Kd.R k26 26 w' w.heap.size (fun _ => True) v0_ r1 ∧ Below w.heap.size w w' :=
  causes_calls a0_0 A0_1 c0_1 l0_1 A1 c1 l1 r1 r2 w hr0_1 hr1 h
end Go.Proofs.Ytfhmepdbbhcncaa.P

namespace Go.Proofs.Ytfhmepdbbhcncaa.P
open Go.RowKit Go.Proofs.YtfhmepdbbhcncaaW.PrintWords Go.Proofs.YtfhmepdbbhcncaaW.PrintLast
set_option linter.unusedVariables false
set_option linter.unusedSimpArgs false

theorem eqA26 (d : Nat) (w : World) (x0 y0 : Int) (x1 y1 : Int) :
    (Op.equalIn (d + 2) 26 (.agg #[.int .i64 x0, .int .i64 x1]) (.agg #[.int .i64 y0, .int .i64 y1])).run Try.prog w = .ok (x0 == y0 && (x1 == y1)) w := by
  refine eqA_of Try.underlying26 (by kernel_rfl) ?_
  refine eqf_cons (by rfl) (by go_simp; rfl) (by go_simp; rfl) (by go_simp) ?_
  exact eqf_last (by rfl) (by go_simp; rfl) (by go_simp; rfl) (by go_simp)
end Go.Proofs.Ytfhmepdbbhcncaa.P

