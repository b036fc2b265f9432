import Derived.Test.YtfhmepdbbhcncaaE14
import Derived.Test.YtfhmepdbbhcncaaV
namespace Go.Proofs.Ytfhmepdbbhcncaa.P
open Go.RowKit Go.Shelf Go.Proofs.YtfhmepdbbhcncaaW.PrintWords Go.Proofs.YtfhmepdbbhcncaaW.PrintLast Go.Proofs.YtfhmepdbbhcncaaW.PrintMore Go.Proofs.YtfhmepdbbhcncaaM Go.Proofs.YtfhmepdbbhcncaaR
set_option linter.unusedVariables false
set_option linter.unusedSimpArgs false

theorem C_one (w : World) (v : Int) : Kd.C (Kd.int .i64) (w.alloc (.cells #[.int .i64 v] 3)) (some ⟨w.heap.size, 0, none⟩) 1 [v] := by
  have h : RowC (w.alloc (.cells #[.int .i64 v] 3)) w.heap.size 3 1 [v] := by
    refine ⟨⟨_, Blk.new w _ 3, rfl, fun j hj => ?_⟩, by simp, by decide⟩
    have h0 : j = 0 := by simpa using hj
    subst h0
    rfl
  exact h.reads
theorem boxes3 (w : World) (o1 o2 o3 : Obj) : Below w.heap.size w (((w.alloc o1).alloc o2).alloc o3) := (((Below.refl _ _).alloc (Nat.le_refl _) _).alloc (by simp) _).alloc (by simp; omega) _
theorem later3 {w w' : World} {o1 o2 o3 : Obj} (h : Below (((w.alloc o1).alloc o2).alloc o3).heap.size (((w.alloc o1).alloc o2).alloc o3) w') : Below w.heap.size w w' := (boxes3 w o1 o2 o3).trans (h.mono (by simp; omega))

theorem wayL_len (l : List S58) (home : Int) : ∀ (k : Nat) (f : Int → Option Int) (a : Int) (acc r : List Int), wayL l home k f a acc = some r → r.length ≤ acc.length + k
  | 0, _, _, _, _, h => by simp [wayL] at h
  | k + 1, f, a, acc, r, h => by
    rw [wayL] at h
    split at h
    · injection h with h; subst h; omega
    · split at h
      · have := wayL_len l home k _ _ _ _ h
        simp at this; omega
      · cases h
def trailF (n : Int) (l : List S58) (sv st v : Int) : Option (List Int × Int) :=
  if openE n l sv st [v] ≠ 0 then some ([], openE n l sv st [v]) else if (runC soonF (fun _ => true) n l sv st).1.getD v.toNat 0 = 1048576 then some ([], 5) else
    match wayL l sv 1000 (runC soonF (fun _ => true) n l sv st).2 v [] with
    | some r => some (r.reverse, 0)
    | none => none

set_option maxHeartbeats 4000000 in
set_option maxRecDepth 100000 in
theorem trail_calls (n : Int) (A : Option Addr) (c : Nat) (l : List S58) (sv st v : Int) (r1 : List Int) (r2 : Int) (w : World) (hr : Kd.C k58 w A l.length l) (h : trailF n l sv st v = some (r1, r2)) :
    Calls Try.prog 32 #[.agg #[.int .i64 n, .slice A l.length c], .agg #[.int .i64 sv, .int .i64 st], .int .i64 v] w fun e w' => ∃ v0, e = .returned (.tuple #[v0, .int .i64 r2]) ∧ Kd.R (Kd.int .i64) 3 w' w.heap.size (fun _ => True) v0 r1 ∧ Below w.heap.size w w' := by
  have hbx := boxes3 w (.cells #[.int .i64 n, .slice A l.length c] 24) (.cells #[.int .i64 sv, .int .i64 st] 26) (.cells #[.int .i64 v] 3)
  have hrx := Kd.C_below hr hbx
  have hcv := C_one ((w.alloc (.cells #[.int .i64 n, .slice A l.length c] 24)).alloc (.cells #[.int .i64 sv, .int .i64 st] 26)) v
  simp only [World.size_alloc] at hcv
  have HR := Lib.hid hr
  have hlm := hr.2.1
  clear hr
  rcases Classical.em (openE n l sv st [v] = 0) with hE | hE
  · have HO := Lib.hid (open_ok n A c l sv st (some ⟨w.heap.size + 1 + 1, 0, none⟩) 1 [v] (((w.alloc (.cells #[.int .i64 n, .slice A l.length c] 24)).alloc (.cells #[.int .i64 sv, .int .i64 st] 26)).alloc (.cells #[.int .i64 v] 3)) hrx hcv hE)
    have HE := Lib.hid hE
    have HX := Lib.hid hbx
    have B0 : Blk (((w.alloc (.cells #[.int .i64 n, .slice A l.length c] 24)).alloc (.cells #[.int .i64 sv, .int .i64 st] 26)).alloc (.cells #[.int .i64 v] 3)) w.heap.size 24 #[.int .i64 n, .slice A l.length c] := ((Blk.new w _ 24).alloc _).alloc _
    have B01 : Blk (((w.alloc (.cells #[.int .i64 n, .slice A l.length c] 24)).alloc (.cells #[.int .i64 sv, .int .i64 st] 26)).alloc (.cells #[.int .i64 v] 3)) (w.heap.size + 1) 26 #[.int .i64 sv, .int .i64 st] := by
      have := (Blk.new (w.alloc (.cells #[.int .i64 n, .slice A l.length c] 24)) #[.int .i64 sv, .int .i64 st] 26).alloc (.cells #[.int .i64 v] 3)
      simpa only [World.size_alloc] using this
    have hsz : (((w.alloc (.cells #[.int .i64 n, .slice A l.length c] 24)).alloc (.cells #[.int .i64 sv, .int .i64 st] 26)).alloc (.cells #[.int .i64 v] 3)).heap.size = w.heap.size + 3 := by simp
    have HB0 := Lib.hid B0
    have HB01 := Lib.hid B01
    have HSZ := Lib.hid hsz
    clear hE hbx hrx B0 B01 hsz hcv
    go_enter Try.func32, Try.ntmps32
    go_upto_region 4 with (go_at_call 52; refine (HO.out).mono ?_; rintro e w' ⟨w1, hb1, rfl, rfl⟩; have HB1 := Lib.hid hb1; clear hb1)
    obtain ⟨hy, hsv, hsv2, hst, hst2, hvs⟩ := openOK HE.out
    have hv0 := (hvs v (by simp)).1
    have hv1 := (hvs v (by simp)).2
    clear hvs
    have hsz1 : w.heap.size + 3 ≤ w1.heap.size := by have := HB1.out.size; rw [HSZ.out] at this; exact this
    have hb2 : Below (w.heap.size + 3) (((w.alloc (.cells #[.int .i64 n, .slice A l.length c] 24)).alloc (.cells #[.int .i64 sv, .int .i64 st] 26)).alloc (.cells #[.int .i64 v] 3)) (w1.alloc (.cells (searchCells n (.slice A l.length c) sv st) 96)) := by rw [← HSZ.out]; exact HB1.out.alloc HB1.out.size _
    have HB2 := Lib.hid hb2
    have B1 := HB0.out.below hb2 (by omega)
    have B11 := HB01.out.below hb2 (by omega)
    have hB : Below w.heap.size w (w1.alloc (.cells (searchCells n (.slice A l.length c) sv st) 96)) := HX.out.trans (hb2.mono (by omega))
    have HS := opened w1 n (.slice A l.length c) sv st
    have HRUN := Lib.hid (run_any soonF 55 (.inl ⟨rfl, rfl⟩) n A c l sv st _ _ w1.heap.size w _ HS hy hsv hsv2 HR.out (by omega) hB.block)
    generalize w1.alloc (.cells (searchCells n (.slice A l.length c) sv st) 96) = W1 at *
    have HY := Lib.hid hy
    have HB1' := Lib.hid B1
    have HB11' := Lib.hid B11
    have HBB := Lib.hid hB
    have hBlt := HS.lt
    clear hb2 B1 B11 hB HS hy
    go_upto_region 5 with (go_at_call 61; refine (HRUN.out).mono ?_; rintro e W2 ⟨M, N, ⟨ve, rfl⟩, hS2, hM2, hg2, hM⟩; have HS2 := Lib.hid hS2; have HG2 := Lib.hid hg2; have HM2 := Lib.hid hM2; clear hS2 hM2 hg2)
    have hn1 := HY.out.n1
    have hn2 := HY.out.n2
    have hn0 : 0 ≤ n := by omega
    have hv20 : v < 20 := by omega
    have hlenl := HY.out.len
    have hw2 := Lib.hid (show Below w.heap.size w W2 from below_grown HBB.out HG2.out (fun r e => by cases e; omega))
    have hf := h
    unfold trailF at hf
    rw [if_neg (by rw [HE.out]; simp)] at hf
    have HF := Lib.hid hf
    clear hf h
    have hc := HS2.out.cm v.toNat (by omega)
    obtain ⟨t, ht⟩ : ∃ t, (runC soonF (fun _ => true) n l sv st).1.getD v.toNat 0 = t := ⟨_, rfl⟩
    rw [ht] at hc
    have HT := Lib.hid ht
    clear ht
    by_cases hne : t = 1048576
    · have hq : (t == 1048576) = true := by simp [hne]
      have hf := HF.out
      rw [if_pos (by rw [HT.out, hne])] at hf
      simp only [Option.some.injEq, Prod.mk.injEq] at hf
      obtain ⟨rfl, rfl⟩ := hf
      clear hne
      go_wp2_with fail
      go_ret2
      exact ⟨.slice none 0 0, rfl, Kd.R_nil _ _ _ _ _, hw2.out⟩
    · have hq : (t == 1048576) = false := by simp [hne]
      have hf := HF.out
      rw [if_neg (by rw [HT.out]; exact hne)] at hf
      clear hne HF
      cases hway : wayL l sv 1000 (runC soonF (fun _ => true) n l sv st).2 v [] with
      | none => rw [hway] at hf; cases hf
      | some r =>
        rw [hway] at hf
        simp only [Option.some.injEq, Prod.mk.injEq] at hf
        obtain ⟨rfl, rfl⟩ := hf
        have hrl := wayL_len l sv 1000 _ _ _ _ hway
        have HWAY := Lib.hid (way_calls w1.heap.size M N n A c l sv st _ _ v r w W2 1000 100001 HS2.out HM2.out (by omega) HR.out hw2.out.size hw2.out.block (by omega) (Nat.le_refl _) hway (rev_ok r (by simp at hrl; omega)))
        clear hway
        go_upto_region 8 with (go_at_call 65; refine (HWAY.out).mono ?_; rintro e W3 ⟨vo, rfl, ho, hg⟩; have HO3 := Lib.hid ho; have HG3 := Lib.hid hg; clear ho hg)
        have hw3 := Lib.hid (below_grown hw2.out HG3.out (fun r e => by cases e; omega))
        have hrr0 : r.reverse.length ≤ 1000 := by simp at hrl ⊢; omega
        obtain ⟨rr, hrr1⟩ : ∃ rr, r.reverse = rr := ⟨_, rfl⟩
        rw [hrr1] at HO3 hrr0
        have HRR := Lib.hid hrr1
        clear hrr1
        obtain ⟨A', c', rfl, hc'⟩ := HO3.out.shape
        have hC3 := Lib.hid (Kd.R_reads' HO3.out.own).2.2
        go_upto_region 9 with ((with_reducible refine gate_dst (N := 39) rfl ?_); refine Kd.R_make (Kd.int .i64) (w0 := W3) W3.heap.size 3 rfl (N := 39) rfl 27 (.tmp 38) (.tmp 38) rfl (rr.length : Int) rfl rfl Try.underlying27 (.int .i64 0) 8 info3 rfl (by decide) (by omega) 0 (ok := fun _ => True) (okp := fun _ => True) rfl (fun _ hk => hk) trivial (by omega) (by omega) (Below.refl _ _) (Nat.le_refl _) ?_; intro vm w11 ho12 hb12 hg12 hn12; have HO12 := Lib.hid ho12; have HB12 := Lib.hid hb12; clear ho12 hb12 hg12 hn12)
        have hC4 := Lib.hid (Kd.C_below hC3.out HB12.out)
        go_wp2_with ((with_reducible refine gate_builtin (b := .copy) (xs := #[.tmp 40, .tmp 41]) rfl ?_); refine Kd.R_copy (0 : Int) (w0 := W3) W3.heap.size rfl (.tmp 40) (.tmp 41) 27 27 3 rfl Try.underlying27 (by kernel_rfl) vm (List.replicate rr.length (0 : Int)) rr A' rr.length c' (fun _ => True) rfl rfl HO12.out hC4.out HB12.out HB12.out.size ?_; intro w12 ho13 hb13 hg13; have HO13 := Lib.hid ho13; have HB13 := Lib.hid hb13; clear ho13 hb13 hg13)
        go_ret2
        have hb3 := hw3.out
        refine ⟨vm, rfl, ?_, below_then hb3 hb3.size HB13.out⟩
        have := HO13.out
        simp only [List.length_replicate, Nat.min_self, List.take_length, List.drop_replicate, Nat.sub_self, List.replicate_zero, List.append_nil] at this
        rw [HRR.out]
        exact Kd.R_lower this hb3.size
  · have HO := Lib.hid (open_bad n A c l sv st (some ⟨w.heap.size + 1 + 1, 0, none⟩) 1 [v] (((w.alloc (.cells #[.int .i64 n, .slice A l.length c] 24)).alloc (.cells #[.int .i64 sv, .int .i64 st] 26)).alloc (.cells #[.int .i64 v] 3)) hrx hcv hE)
    have hf := h
    unfold trailF at hf
    rw [if_pos hE] at hf
    simp only [Option.some.injEq, Prod.mk.injEq] at hf
    obtain ⟨rfl, rfl⟩ := hf
    obtain ⟨ev, hev⟩ : ∃ ev, openE n l sv st [v] = ev := ⟨_, rfl⟩
    rw [hev] at HO hE
    have HEV := Lib.hid hev
    have hne : (ev != 0) = true := by simp [hE]
    have HE := Lib.hid hE
    have HX := Lib.hid hbx
    clear hev hE hbx hrx hcv
    go_enter Try.func32, Try.ntmps32
    go_wp2_with (go_at_call 52; refine (HO.out).mono ?_; rintro e w' ⟨rfl, hb1⟩; have HB1 := Lib.hid hb1; clear hb1)
    go_ret2
    exact ⟨.slice none 0 0, by rw [HEV.out]; rfl, Kd.R_nil _ _ _ _ _, later3 HB1.out⟩
end Go.Proofs.Ytfhmepdbbhcncaa.P
