import Derived.Test.YtfhmepdbbhcncaaE18
namespace Go.Proofs.Ytfhmepdbbhcncaa.P
open Go.RowKit Go.Shelf Go.Proofs.YtfhmepdbbhcncaaW.PrintWords Go.Proofs.YtfhmepdbbhcncaaW.PrintLast Go.Proofs.YtfhmepdbbhcncaaW.PrintMore Go.Proofs.YtfhmepdbbhcncaaM Go.Proofs.YtfhmepdbbhcncaaR
set_option linter.unusedVariables false
set_option linter.unusedSimpArgs false

theorem wayL_mem (l : List S58) (home : Int) : ∀ (k : Nat) (f : Int → Option Int) (a : Int) (acc r : List Int), wayL l home k f a acc = some r → (∀ i ∈ acc, 0 ≤ i ∧ i < (l.length : Int)) → ∀ i ∈ r, 0 ≤ i ∧ i < (l.length : Int)
  | 0, _, _, _, _, h, _ => by simp [wayL] at h
  | k + 1, f, a, acc, r, h, ha => by
    rw [wayL] at h
    split at h
    · injection h with h; subst h; exact ha
    · split at h
      · rename_i hi
        refine wayL_mem l home k _ _ _ _ h (fun j hj => ?_)
        rcases List.mem_append.1 hj with h1 | h1
        · exact ha j h1
        · rw [List.mem_singleton.1 h1]; exact hi
      · cases h
def notToF (v : Int) (m : S58) : Bool := m.f1 != v
/-- the vessels along the way without which there is no trail -/
def passT (n : Int) (l : List S58) (sv st v : Int) (rr : List Int) : Nat → List Int
  | 0 => [sv]
  | k + 1 => if (runC soonF (notToF (rd_T58 l (rr.getD k 0)).f1) n l sv st).1.getD v.toNat 0 = 1048576 then passT n l sv st v rr k ++ [(rd_T58 l (rr.getD k 0)).f1] else passT n l sv st v rr k
theorem passT_len (n : Int) (l : List S58) (sv st v : Int) (rr : List Int) : ∀ k, 0 < (passT n l sv st v rr k).length ∧ (passT n l sv st v rr k).length ≤ k + 1
  | 0 => by simp [passT]
  | k + 1 => by
    have := passT_len n l sv st v rr k
    rw [passT]; split <;> (try simp) <;> omega
def passedF (n : Int) (l : List S58) (sv st v : Int) : Option (List Int × Int) :=
  if openE n l sv st [v] ≠ 0 then some ([], openE n l sv st [v]) else if (runC soonF (fun _ => true) n l sv st).1.getD v.toNat 0 = 1048576 then some ([], 5) else
    match wayL l sv 1000 (runC soonF (fun _ => true) n l sv st).2 v [] with
    | some r => some ((passT n l sv st v r.reverse r.reverse.length).mergeSort (fun x y => decide (x ≤ y)), 0)
    | none => none

/-- Between the rounds of Passed. -/
structure PassS (w W : World) (B : Nat) (n : Int) (sl : Value) (sv st : Int) (base : Nat) (vo : Value) (rr : List Int) (v : Value) (out : List Int) : Prop where
  S : ∃ come m, SAt W B n sl sv st come m
  Y : Blk W w.heap.size 24 #[.int .i64 n, sl]
  Wy : OutV W base vo rr
  O : ∃ b cap, v = .slice (some ⟨b, 0, none⟩) out.length cap ∧ base ≤ b ∧ RowC W b 3 cap out ∧ some b ≠ vo.ownBlock
  g : Below w.heap.size w W
  hb : base ≤ W.heap.size
theorem PassS.kept {w W W' : World} {B : Nat} {n : Int} {sl : Value} {sv st : Int} {base : Nat} {vo : Value} {rr : List Int} {v : Value} {out : List Int} (h : PassS w W B n sl sv st base vo rr v out) (hg : W.grownBy W' none) : PassS w W' B n sl sv st base vo rr v out := by
  obtain ⟨come, m, hS⟩ := h.S
  obtain ⟨b, cap, e, h1, h2, h3⟩ := h.O
  exact ⟨⟨come, m, hS.kept hg (by simp)⟩, h.Y.kept hg (by simp), h.Wy.kept hg (fun r e => by cases e), ⟨b, cap, e, h1, h2.kept hg (by simp), h3⟩, below_grown h.g hg (fun r e => by cases e), Nat.le_trans h.hb hg.size⟩
theorem PassS.ran {w W W' : World} {B : Nat} {n : Int} {sl : Value} {sv st : Int} {base : Nat} {vo : Value} {rr : List Int} {v : Value} {out : List Int} {come : List Int} {m : Value} (h : PassS w W B n sl sv st base vo rr v out) (hB : B < base) (hw : w.heap.size < B) (hS : SAt W' B n sl sv st come m) (hg : W.grownBy W' (some B)) : PassS w W' B n sl sv st base vo rr v out := by
  obtain ⟨b, cap, e, h1, h2, h3⟩ := h.O
  exact ⟨⟨come, m, hS⟩, h.Y.kept hg (by simp; omega), h.Wy.kept hg (fun r e => by cases e; exact hB), ⟨b, cap, e, h1, h2.kept hg (by simp; omega), h3⟩, below_grown h.g hg (fun r e => by cases e; omega), Nat.le_trans h.hb hg.size⟩
theorem OutV.ownlt {W : World} {base : Nat} {v : Value} {xs : List Int} (h : OutV W base v xs) : ∀ k, v.ownBlock = some k → k < W.heap.size := by
  rcases h with ⟨_, rfl⟩ | ⟨h, b, cap, rfl, hb', hrow⟩
  · intro k e; simp [Value.ownBlock] at e
  · intro k e; simp [Value.ownBlock] at e; subst e; exact hrow.lt
theorem OutV.keptNe {W W' : World} {base : Nat} {v : Value} {xs : List Int} {row : Option Nat} (h : OutV W base v xs) (hg : W.grownBy W' row) (hr : row ≠ v.ownBlock ∨ row = none) : OutV W' base v xs := by
  rcases h with h | ⟨h, b, cap, rfl, hb', hrow⟩
  · exact .inl h
  · refine .inr ⟨h, b, cap, rfl, hb', hrow.kept hg (fun e => ?_)⟩
    rcases hr with h1 | h1
    · exact h1 (by rw [← e]; rfl)
    · rw [h1] at e; cases e
theorem OutV.ownge {W : World} {base : Nat} {v : Value} {xs : List Int} (h : OutV W base v xs) : ∀ k, v.ownBlock = some k → base ≤ k := by
  rcases h with ⟨_, rfl⟩ | ⟨h, b, cap, rfl, hb', hrow⟩
  · intro k e; simp [Value.ownBlock] at e
  · intro k e; simp [Value.ownBlock] at e; subst e; exact hb'
theorem PassS.grew {w W W' : World} {B : Nat} {n : Int} {sl : Value} {sv st : Int} {base : Nat} {vo : Value} {rr : List Int} {v v1 : Value} {out : List Int} {x : Int} (h : PassS w W B n sl sv st base vo rr v out) (hB : B < base) (hw : w.heap.size < B)
    (ho : Kd.R (Kd.int .i64) 3 W' base (fun k => some k ≠ vo.ownBlock) v1 (out ++ [x])) (hg : W.grownBy W' v.ownBlock) : PassS w W' B n sl sv st base vo rr v1 (out ++ [x]) := by
  obtain ⟨come, m, hS⟩ := h.S
  obtain ⟨b, cap, rfl, h1, h2, h3⟩ := h.O
  have hg' : W.grownBy W' (some b) := hg
  obtain ⟨b', cap', rfl, h4, h5, h6⟩ := RowC.of_own (Kd.own_of_R ho) (by simp)
  exact ⟨⟨come, m, hS.kept hg' (by simp; omega)⟩, h.Y.kept hg' (by simp; omega), h.Wy.keptNe hg' (.inl h3), ⟨b', cap', rfl, h4, h6, ho.1 b' rfl⟩, below_grown h.g hg' (fun r e => by cases e; omega), Nat.le_trans h.hb hg.size⟩


set_option maxHeartbeats 4000000 in
set_option maxRecDepth 100000 in
theorem passed_calls (n : Int) (A : Option Addr) (c : Nat) (l : List S58) (sv st v : Int) (r1 : List Int) (r2 : Int) (w : World) (hr : Kd.C k58 w A l.length l) (h : passedF n l sv st v = some (r1, r2)) :
    Calls Try.prog 30 #[.agg #[.int .i64 n, .slice A l.length c], .agg #[.int .i64 sv, .int .i64 st], .int .i64 v] w fun e w' => ∃ v0, e = .returned (.tuple #[v0, .int .i64 r2]) ∧ Kd.R (Kd.int .i64) 3 w' w.heap.size (fun _ => True) v0 r1 ∧ Below w.heap.size w w' := by
  have hbx := boxes3 w (.cells #[.int .i64 n, .slice A l.length c] 24) (.cells #[.int .i64 sv, .int .i64 st] 26) (.cells #[.int .i64 v] 3)
  have hrx := Kd.C_below hr hbx
  have hcv := C_one ((w.alloc (.cells #[.int .i64 n, .slice A l.length c] 24)).alloc (.cells #[.int .i64 sv, .int .i64 st] 26)) v
  simp only [World.size_alloc] at hcv
  have HR := Lib.hid hr
  have hlm := hr.2.1
  clear hr
  rcases Classical.em (openE n l sv st [v] = 0) with hE | hE
  · have HO := Lib.hid (open_ok n A c l sv st (some ⟨w.heap.size + 1 + 1, 0, none⟩) 1 [v] (((w.alloc (.cells #[.int .i64 n, .slice A l.length c] 24)).alloc (.cells #[.int .i64 sv, .int .i64 st] 26)).alloc (.cells #[.int .i64 v] 3)) hrx hcv hE)
    have HE := Lib.hid hE
    have HX := Lib.hid hbx
    have B0 : Blk (((w.alloc (.cells #[.int .i64 n, .slice A l.length c] 24)).alloc (.cells #[.int .i64 sv, .int .i64 st] 26)).alloc (.cells #[.int .i64 v] 3)) w.heap.size 24 #[.int .i64 n, .slice A l.length c] := ((Blk.new w _ 24).alloc _).alloc _
    have B01 : Blk (((w.alloc (.cells #[.int .i64 n, .slice A l.length c] 24)).alloc (.cells #[.int .i64 sv, .int .i64 st] 26)).alloc (.cells #[.int .i64 v] 3)) (w.heap.size + 1) 26 #[.int .i64 sv, .int .i64 st] := by
      have := (Blk.new (w.alloc (.cells #[.int .i64 n, .slice A l.length c] 24)) #[.int .i64 sv, .int .i64 st] 26).alloc (.cells #[.int .i64 v] 3)
      simpa only [World.size_alloc] using this
    have hsz : (((w.alloc (.cells #[.int .i64 n, .slice A l.length c] 24)).alloc (.cells #[.int .i64 sv, .int .i64 st] 26)).alloc (.cells #[.int .i64 v] 3)).heap.size = w.heap.size + 3 := by simp
    have HB0 := Lib.hid B0
    have HB01 := Lib.hid B01
    have HSZ := Lib.hid hsz
    clear hE hbx hrx B0 B01 hsz hcv
    go_enter Try.func30, Try.ntmps30
    go_upto_region 4 with (go_at_call 52; refine (HO.out).mono ?_; rintro e w' ⟨w1, hb1, rfl, rfl⟩; have HB1 := Lib.hid hb1; clear hb1)
    obtain ⟨hy, hsv, hsv2, hst, hst2, hvs⟩ := openOK HE.out
    have hv0 := (hvs v (by simp)).1
    have hv1 := (hvs v (by simp)).2
    clear hvs
    have hsz1 : w.heap.size + 3 ≤ w1.heap.size := by have := HB1.out.size; rw [HSZ.out] at this; exact this
    have hb2 : Below (w.heap.size + 3) (((w.alloc (.cells #[.int .i64 n, .slice A l.length c] 24)).alloc (.cells #[.int .i64 sv, .int .i64 st] 26)).alloc (.cells #[.int .i64 v] 3)) (w1.alloc (.cells (searchCells n (.slice A l.length c) sv st) 96)) := by rw [← HSZ.out]; exact HB1.out.alloc HB1.out.size _
    have HB2 := Lib.hid hb2
    have B1 := HB0.out.below hb2 (by omega)
    have B11 := HB01.out.below hb2 (by omega)
    have hB : Below w.heap.size w (w1.alloc (.cells (searchCells n (.slice A l.length c) sv st) 96)) := HX.out.trans (hb2.mono (by omega))
    have HS := opened w1 n (.slice A l.length c) sv st
    have HRUN := Lib.hid (run_any soonF 55 (.inl ⟨rfl, rfl⟩) n A c l sv st _ _ w1.heap.size w _ HS hy hsv hsv2 HR.out (by omega) hB.block)
    generalize w1.alloc (.cells (searchCells n (.slice A l.length c) sv st) 96) = W1 at *
    have HY := Lib.hid hy
    have HB1' := Lib.hid B1
    have HB11' := Lib.hid B11
    have HBB := Lib.hid hB
    have hBlt := HS.lt
    clear hb2 B1 B11 hB HS hy
    go_upto_region 5 with (go_at_call 61; refine (HRUN.out).mono ?_; rintro e W2 ⟨M, N, ⟨ve, rfl⟩, hS2, hM2, hg2, hM⟩; have HS2 := Lib.hid hS2; have HG2 := Lib.hid hg2; have HM2 := Lib.hid hM2; clear hS2 hM2 hg2)
    have hn1 := HY.out.n1
    have hn2 := HY.out.n2
    have hn0 : 0 ≤ n := by omega
    have hv20 : v < 20 := by omega
    have hlenl := HY.out.len
    have hw2 := Lib.hid (show Below w.heap.size w W2 from below_grown HBB.out HG2.out (fun r e => by cases e; omega))
    have hf := h
    unfold passedF at hf
    rw [if_neg (by rw [HE.out]; simp)] at hf
    have HF := Lib.hid hf
    clear hf h
    have hc := HS2.out.cm v.toNat (by omega)
    obtain ⟨t, ht⟩ : ∃ t, (runC soonF (fun _ => true) n l sv st).1.getD v.toNat 0 = t := ⟨_, rfl⟩
    rw [ht] at hc
    have HT := Lib.hid ht
    clear ht
    by_cases hne : t = 1048576
    · have hq : (t == 1048576) = true := by simp [hne]
      have hf := HF.out
      rw [if_pos (by rw [HT.out, hne])] at hf
      simp only [Option.some.injEq, Prod.mk.injEq] at hf
      obtain ⟨rfl, rfl⟩ := hf
      clear hne
      go_wp2_with fail
      go_ret2
      exact ⟨.slice none 0 0, rfl, Kd.R_nil _ _ _ _ _, hw2.out⟩
    · have hq : (t == 1048576) = false := by simp [hne]
      have hf := HF.out
      rw [if_neg (by rw [HT.out]; exact hne)] at hf
      clear hne HF
      cases hway : wayL l sv 1000 (runC soonF (fun _ => true) n l sv st).2 v [] with
      | none => rw [hway] at hf; cases hf
      | some r =>
        rw [hway] at hf
        simp only [Option.some.injEq, Prod.mk.injEq] at hf
        obtain ⟨rfl, rfl⟩ := hf
        have hrl := wayL_len l sv 1000 _ _ _ _ hway
        have hmem := wayL_mem l sv 1000 _ _ _ _ hway (fun i hi => by cases hi)
        have hrr0 : r.reverse.length ≤ 1000 := by simp at hrl ⊢; omega
        have HMEM := Lib.hid (show ∀ i ∈ r.reverse, 0 ≤ i ∧ i < (l.length : Int) from fun i hi => hmem i (List.mem_reverse.1 hi))
        clear hmem
        have ga := World.grownBy_alloc W2 (.cells #[.int .i64 sv] 3) none
        have ho0 : RowC (W2.alloc (.cells #[.int .i64 sv] 3)) W2.heap.size 3 1 [sv] := by
          refine ⟨⟨_, Blk.new W2 _ 3, rfl, fun j hj => ?_⟩, by simp, by decide⟩
          have h0 : j = 0 := by simpa using hj
          subst h0
          rfl
        have HWAY := Lib.hid (way_calls w1.heap.size M N n A c l sv st _ _ v r w (W2.alloc (.cells #[.int .i64 sv] 3)) 1000 100001 (HS2.out.kept ga (by simp)) (HM2.out.move (ga.block M HM2.out.lt (by simp))) (by omega) HR.out (Nat.le_trans hw2.out.size ga.size) (fun k hk => (ga.block k (Nat.lt_of_lt_of_le hk hw2.out.size) (by simp)).trans (hw2.out.block k hk)) (by omega) (Nat.le_refl _) hway (rev_ok r (by simp at hrl; omega)))
        have HO0 := Lib.hid ho0
        have hs0 := (HB11'.out.kept HG2.out (by simp; omega))
        have cs0 : W2.cell? ⟨w.heap.size + 1, 0, none⟩ = some (.int .i64 sv) := hs0.cell 0
        clear hway ho0 ga hs0
        obtain ⟨rr, hrr1⟩ : ∃ rr, r.reverse = rr := ⟨_, rfl⟩
        rw [hrr1] at HWAY hrr0 HMEM
        have HRR := Lib.hid hrr1
        clear hrr1
        have hBM : w1.heap.size < M := by omega
        have hM2 := HM2.out.lt
        have hY2 := Lib.hid (HB1'.out.kept HG2.out (by simp; omega))
        go_upto_region 8 with (fail)
        have hal : (W2.alloc (.cells #[.int .i64 sv] 3)).heap.size = W2.heap.size + 1 := by simp
        have HAL := Lib.hid hal
        have HGA := Lib.hid (World.grownBy_alloc W2 (.cells #[.int .i64 sv] 3) none)
        clear hal
        generalize W2.alloc (.cells #[.int .i64 sv] 3) = W3 at *
        go_wp2_with (go_at_call 65; refine (HWAY.out).mono ?_; rintro e W4 ⟨vo, rfl, ho, hg⟩; have HO4 := Lib.hid ho; have HG4 := Lib.hid hg; obtain ⟨A', c', hvo, hc'⟩ := ho.shape; subst hvo; clear ho hg)
        have hP := Lib.hid (show PassS w W4 w1.heap.size n (.slice A l.length c) sv st W2.heap.size (.slice A' rr.length c') rr (.slice (some ⟨W2.heap.size, 0, none⟩) 1 1) [sv] from
          ⟨⟨_, _, (HS2.out.kept HGA.out (by simp)).kept HG4.out (by simp; omega)⟩, (hY2.out.kept HGA.out (by simp)).kept HG4.out (by simp; have := hw2.out.size; omega), HO4.out.lower (by rw [HAL.out]; omega),
           ⟨W2.heap.size, 1, rfl, Nat.le_refl _, HO0.out.kept HG4.out (by simp; omega), fun e => by have := HO4.out.ownge _ e.symm; rw [HAL.out] at this; omega⟩,
           below_grown (below_grown hw2.out HGA.out (fun r e => by cases e)) HG4.out (fun r e => by cases e; omega), Nat.le_trans (by rw [HAL.out]; omega) HG4.out.size⟩)
        have hB2 : w1.heap.size < W2.heap.size := HS2.out.lt
        have hwB : w.heap.size < w1.heap.size := by omega
        generalize W2.heap.size = bO at *
        clear HO4 HG4 HO0 HWAY HGA HAL hY2 cs0 hM2 hBM HS2 HG2 HM2 hc hq HRUN
        go_loopg [10, 43] rr.length (fun kq v10 v43 w' => ∃ (k : Nat), v43 = .int .i64 k ∧ Aside0 (k + kq = rr.length) ∧ Aside0 (PassS w w' w1.heap.size n (.slice A l.length c) sv st bO (.slice A' rr.length c') rr v10 (passT n l sv st v rr k)))
        case atStart => exact ⟨0, rfl, ⟨by omega⟩, ⟨hP.out⟩⟩
        case round =>
          obtain ⟨k, rfl, HN, HP⟩ := hrel
          cases gk with
          | succ k1 =>
            have hlt : k < rr.length := by have := HN.out; omega
            have hl4 : decide ((k : Int) < (rr.length : Int)) = true := decide_eq_true (by omega)
            have hl5 : decide (k < rr.length) = true := decide_eq_true hlt
            have hT := (Kd.R_reads' HP.out.Wy.own).2.2
            obtain ⟨adt, et, hct⟩ := Kd.at_int hT (k : Int) (by omega) (by omega)
            cases et
            rw [Int.toNat_natCast] at hct
            have hrd : rd rr (k : Int) = rr[k] := by rw [rd_nat rr k hlt]
            have hgd : rr.getD k 0 = rr[k] := by simp [hlt]
            have hi := HMEM.out rr[k] (List.getElem_mem hlt)
            rw [hrd] at hct
            have HPT := Lib.hid (show passT n l sv st v rr (k + 1) = if (runC soonF (notToF (rd_T58 l rr[k]).f1) n l sv st).1.getD v.toNat 0 = 1048576 then passT n l sv st v rr k ++ [(rd_T58 l rr[k]).f1] else passT n l sv st v rr k by rw [passT, hgd])
            generalize rr[k] = i at *
            have hC := Kd.C_below HR.out HP.out.g
            obtain ⟨ad, e0, hc0, hc1, hc2, hc3⟩ := at_T58 hC i hi.1 hi.2
            cases e0
            have hi1 := hi.1
            have hi2 := hi.2
            have hi3 : i.toNat < l.length := by omega
            have cy : wr.cell? ⟨w.heap.size, 1, none⟩ = some (.slice (some ad) l.length c) := HP.out.Y.cell 1
            clear hC hT hrd hgd hi hP
            generalize rd_T58 l i = m at *
            go_upto_region 12 with (fail)
            have HP5 := HP.out.kept (World.grownBy_alloc wr (.cells #[.int .i64 m.f1] 3) none)
            have hbk := Blk.new wr #[.int .i64 m.f1] 3
            have hbV : w1.heap.size < wr.heap.size := by have := HP.out.hb; omega
            generalize wr.heap.size = bV at *
            generalize wr.alloc (.cells #[.int .i64 m.f1] 3) = W5 at *
            clear hct hc0 hc1 hc2 hc3 cy HP
            obtain ⟨come5, m5, hS5⟩ := HP5.S
            have HRUN := Lib.hid (run_calls w1.heap.size n (some ad) c l sv st come5 m5 55 66 #[] #[.pointer (some ⟨bV, 0, none⟩)] soonF (notToF m.f1) w W5 hS5 hn1 hn2 hsv hsv2 (fun m hm => ⟨(HY.out.mv m hm).2.2.1, (HY.out.mv m hm).2.2.2.1⟩) HR.out (by omega) HP5.g.block
              (enters_of Try.func55 (by kernel_rfl) rfl) (enters_of Try.func66 (by kernel_rfl) rfl) (fun W t m => soonest_calls t m W)
              (fun W m' hgW => by have h := notTo_calls bV m.f1 m' W ((hbk.kept hgW (by simp; omega)).cell 0); simpa [notToF] using h))
            have HP5' := Lib.hid HP5
            have HBK := Lib.hid hbk
            clear HP5 hS5 hbk
            go_upto_region 13 with (go_at_call 61; refine (HRUN.out).mono ?_; rintro e W6 ⟨M6, N6, ⟨ve6, rfl⟩, hS6, hM6, hg6, hM6'⟩; have HP6 := Lib.hid (HP5'.out.ran hB2 hwB hS6 hg6); have HS6 := Lib.hid hS6; have HB6 := Lib.hid (HBK.out.kept hg6 (by simp; omega)); clear hS6 hM6 hg6 hM6')
            have hc := HS6.out.cm v.toNat (by omega)
            have hcv : W6.cell? ⟨bV, 0, none⟩ = some (.int .i64 m.f1) := HB6.out.cell 0
            obtain ⟨t6, ht6⟩ : ∃ t6, (runC soonF (notToF m.f1) n l sv st).1.getD v.toNat 0 = t6 := ⟨_, rfl⟩
            rw [ht6] at hc
            have HT6 := Lib.hid ht6
            clear ht6 HRUN
            by_cases hne : t6 = 1048576
            · have hq : (t6 == 1048576) = true := by simp [hne]
              have HQ := Lib.hid hne
              clear hne
              have hR6 := Lib.hid (show Kd.R (Kd.int .i64) 3 W6 bO (fun k => some k ≠ (Value.slice (some adt) rr.length c').ownBlock) u10 (passT n l sv st v rr k) by
                obtain ⟨b, cap, e, h1, h2, h3⟩ := HP6.out.O
                rw [e]
                exact Kd.R_of_own (h2.own h1) (fun k hk => by rw [← hk]; exact h3))
              have hB6 := Lib.hid (show Below bO (cutW W6 bO) W6 from by have h := cutW_below HP6.out.hb; rw [h.2] at h; exact h.1)
              have hpl := (passT_len n l sv st v rr k).2
              go_wp2_with ((with_reducible refine gate_builtin (b := .append) (xs := #[.tmp 63, .tmp 65]) rfl ?_); at_builtin; refine Kd.R_append (Kd.int .i64) (w0 := cutW W6 bO) bO rfl (.tmp 63) (.tmp 65) 27 3 (.int .i64 0) 8 rfl Try.underlying27 info3 rfl (by decide) (by omega) u10 (passT n l sv st v rr k) m.f1 [.int .i64 m.f1] (fun k => some k ≠ (Value.slice (some adt) rr.length c').ownBlock) (fun _ => False) rfl rfl ?aP (fun _ hk => hk.elim) ?aF ?aO ?aB ?aS ?aL ?_; (case aP => exact rfl); (case aB => exact hB6.out); (case aF => exact (fun q hq e => by have := HP6.out.Wy.ownlt q e.symm; omega)); (case aO => exact hR6.out); (case aS => exact HP6.out.hb); (case aL => omega); intro v7 w24 ho hb hg hat; have HP7 := Lib.hid (HP6.out.grew hB2 hwB ho hg); clear ho hb hg hat)
              go_roundg k1
              case rel => exact ⟨k + 1, by go_num, ⟨by have := HN.out; omega⟩, ⟨by rw [HPT.out, if_pos (by rw [HT6.out]; exact HQ.out)]; exact HP7.out⟩⟩
              case measure => omega
            · have hq : (t6 == 1048576) = false := by simp [hne]
              have HQ := Lib.hid hne
              clear hne
              go_wp2_with fail
              go_roundg k1
              case rel => exact ⟨k + 1, by go_num, ⟨by have := HN.out; omega⟩, ⟨by rw [HPT.out, if_neg (by rw [HT6.out]; exact HQ.out)]; exact HP6.out⟩⟩
              case measure => omega
          | zero =>
            have hk : k = rr.length := by have := HN.out; omega
            subst hk
            have hl4 : decide ((rr.length : Int) < (rr.length : Int)) = false := decide_eq_false (by omega)
            have hl5 : decide (rr.length < rr.length) = false := decide_eq_false (by omega)
            have hpl := passT_len n l sv st v rr rr.length
            obtain ⟨b, cap, rfl, hb1, hrow, _⟩ := HP.out.O
            have HSORT := Lib.hid (sort67 b cap (passT n l sv st v rr rr.length) wr hrow hpl.1 (by omega))
            clear hrow
            go_wp2_with (go_at_call 67; refine (HSORT.out).mono ?_; rintro e W7 ⟨rfl, hrow7, hg7⟩; have HROW7 := Lib.hid hrow7; have HG7 := Lib.hid hg7; clear hrow7 hg7)
            go_ret2
            have hww := HP.out.g
            refine ⟨_, rfl, ?_, below_grown hww HG7.out (fun r e => by cases e; omega)⟩
            rw [HRR.out]
            have ho := HROW7.out.own (base := w.heap.size) (by omega)
            have hml : ((passT n l sv st v rr rr.length).mergeSort fun x y => decide (x ≤ y)).length = (passT n l sv st v rr rr.length).length := List.length_mergeSort _
            have hR : Kd.R (Kd.int .i64) 3 W7 w.heap.size (fun _ => True) (.slice (some ⟨b, 0, none⟩) ((passT n l sv st v rr rr.length).mergeSort fun x y => decide (x ≤ y)).length cap) ((passT n l sv st v rr rr.length).mergeSort fun x y => decide (x ≤ y)) := Kd.R_of_own ho (fun _ _ => trivial)
            rw [hml] at hR
            exact hR
  · have HO := Lib.hid (open_bad n A c l sv st (some ⟨w.heap.size + 1 + 1, 0, none⟩) 1 [v] (((w.alloc (.cells #[.int .i64 n, .slice A l.length c] 24)).alloc (.cells #[.int .i64 sv, .int .i64 st] 26)).alloc (.cells #[.int .i64 v] 3)) hrx hcv hE)
    have hf := h
    unfold passedF at hf
    rw [if_pos hE] at hf
    simp only [Option.some.injEq, Prod.mk.injEq] at hf
    obtain ⟨rfl, rfl⟩ := hf
    obtain ⟨ev, hev⟩ : ∃ ev, openE n l sv st [v] = ev := ⟨_, rfl⟩
    rw [hev] at HO hE
    have HEV := Lib.hid hev
    have hne : (ev != 0) = true := by simp [hE]
    have HE := Lib.hid hE
    have HX := Lib.hid hbx
    clear hev hE hbx hrx hcv
    go_enter Try.func30, Try.ntmps30
    go_wp2_with (go_at_call 52; refine (HO.out).mono ?_; rintro e w' ⟨rfl, hb1⟩; have HB1 := Lib.hid hb1; clear hb1)
    go_ret2
    exact ⟨.slice none 0 0, by rw [HEV.out]; rfl, Kd.R_nil _ _ _ _ _, later3 HB1.out⟩
end Go.Proofs.Ytfhmepdbbhcncaa.P
