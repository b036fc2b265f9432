import Derived.Test.YtfhmepdbbhcncaaE10
namespace Go.Proofs.Ytfhmepdbbhcncaa.P
open Go.RowKit Go.Shelf Go.Proofs.YtfhmepdbbhcncaaW.PrintWords Go.Proofs.YtfhmepdbbhcncaaW.PrintLast Go.Proofs.YtfhmepdbbhcncaaW.PrintMore Go.Proofs.YtfhmepdbbhcncaaM Go.Proofs.YtfhmepdbbhcncaaR
set_option linter.unusedVariables false
set_option linter.unusedSimpArgs false

def cutW (w : World) (b : Nat) : World := { w with heap := w.heap.extract 0 b }
theorem cutW_below {w : World} {b : Nat} (h : b ≤ w.heap.size) : Below (cutW w b).heap.size (cutW w b) w ∧ (cutW w b).heap.size = b := by
  have e : (cutW w b).heap.size = b := by simp [cutW]; omega
  refine ⟨⟨rfl, rfl, rfl, by omega, fun k hk => ?_⟩, e⟩
  rw [e] at hk
  simp [cutW, Array.getElem?_extract, hk]
  omega

/-- slices.Reverse at a list of one's own. -/
theorem reverse_own {w : World} {base k : Nat} {v : Value} {xs ys : List Int} (h : OutV w base v xs) (hk : slices_Reverse_int_int.f k xs = some ys) (hl : ys.length = xs.length) (hbase : base ≤ w.heap.size) :
    Calls Try.prog 81 #[v] w fun e w' => e = .returned (.tuple #[]) ∧ OutV w' base v ys ∧ (∀ q, q < base → w'.heap[q]? = w.heap[q]?) ∧ w.heap.size ≤ w'.heap.size ∧ w'.os = w.os ∧ w'.tape = w.tape ∧ w'.output = w.output := by
  obtain ⟨hb, hs⟩ := cutW_below hbase
  refine (slices_Reverse_int_int.calls k (fun _ => True) v xs ys (cutW w base) w hb ?_ hk).mono ?_
  · rw [hs]; exact h.own
  · rintro e w' ⟨rfl, hr, hb', hkp⟩
    have hq : ∀ q, q < base → w'.heap[q]? = w.heap[q]? := fun q h1 => (hb'.block q (by omega)).trans (hb.block q (by omega)).symm
    refine ⟨rfl, ?_, hq, hkp.1, hb'.os.trans hb.os.symm, hb'.tape.trans hb.tape.symm, hb'.output.trans hb.output.symm⟩
    rw [hs] at hr
    rcases h with ⟨rfl, rfl⟩ | ⟨h, b, cap, rfl, hb2, hrow⟩
    · left
      exact ⟨List.eq_nil_of_length_eq_zero (by simpa using hl), rfl⟩
    · right
      have ho := Kd.own_of_R hr
      rw [hl] at ho
      obtain ⟨b', cap', e, h1, h2, h3⟩ := RowC.of_own ho h
      injection e with e1 e2 e3
      injection e1 with e1
      injection e1 with e1
      exact ⟨by omega, b', cap', by rw [e1, hl, e3], h1, h3⟩


theorem gmono {w w' : World} (hg : w.grownBy w' none) (row : Option Nat) : w.grownBy w' row := ⟨hg.os, hg.tape, hg.output, hg.size, fun k hk _ => hg.block k hk (by simp)⟩
theorem OutV.far {W : World} {base bA : Nat} {v : Value} {xs : List Int} {cur : Array Value} (h : OutV W base v xs) (hb : Blk W bA 111 cur) (j : Nat) (u : Value) : OutV (W.setCell ⟨bA, j, none⟩ u) base v xs := by
  rcases h with h | ⟨h, b, cap, e, hb', hrow⟩
  · exact .inl h
  · refine .inr ⟨h, b, cap, e, hb', hrow.kept (grown_set W bA j u) (fun he => ?_)⟩
    injection he with he
    obtain ⟨cur', hk, _⟩ := hrow.ex
    rw [he, Blk, show W.heap[bA]? = _ from hb] at hk
    cases hk

/-- Between the rounds of way. -/
structure WayS (w W : World) (B M : Nat) (n : Int) (sl : Value) (sv st : Int) (come : List Int) (f : Int → Option Int) (bA : Nat) (a : Int) (v : Value) (acc : List Int) : Prop where
  S : SAt W B n sl sv st come (.map (some M))
  Mp : ∃ N, MapAt W encK M N (fun k => (f k).map (Value.int .i64))
  H : Blk W w.heap.size 111 #[.int .i64 sv]
  A : Blk W bA 111 #[.int .i64 a]
  hA : w.heap.size < bA
  O : OutV W w.heap.size v acc
  g : w.grownBy W (some M)
theorem WayS.kept {w W W' : World} {B M : Nat} {n : Int} {sl : Value} {sv st : Int} {come : List Int} {f : Int → Option Int} {bA : Nat} {a : Int} {v : Value} {acc : List Int}
    (h : WayS w W B M n sl sv st come f bA a v acc) (hg : W.grownBy W' none) : WayS w W' B M n sl sv st come f bA a v acc := by
  obtain ⟨N, hN⟩ := h.Mp
  exact ⟨h.S.kept hg (by simp), ⟨N, hN.move (hg.block M hN.lt (by simp))⟩, h.H.kept hg (by simp), h.A.kept hg (by simp), h.hA, h.O.kept hg (fun r e => by cases e), h.g.trans (gmono hg _)⟩

theorem WayS.deleted {w W W' : World} {B M N : Nat} {n : Int} {sl : Value} {sv st : Int} {come : List Int} {f f2 : Int → Option Int} {fv : Int → Option Value} {bA : Nat} {a : Int} {v : Value} {acc : List Int}
    (h : WayS w W B M n sl sv st come f bA a v acc) (hBM : B ≠ M) (hM : M < w.heap.size) (hg : W.grownBy W' (some M)) (hm : MapAt W' encK M N fv) (hf : ∀ k, fv k = (f2 k).map (Value.int .i64)) : WayS w W' B M n sl sv st come f2 bA a v acc := by
  have hA := h.hA
  exact ⟨h.S.kept hg (by simpa using hBM), ⟨N, (funext hf : fv = fun k => (f2 k).map (Value.int .i64)) ▸ hm⟩, h.H.kept hg (by simp; omega), h.A.kept hg (by simp; omega), h.hA, h.O.kept hg (fun r e => by cases e; exact hM), h.g.trans hg⟩
theorem WayS.on {w W W' : World} {B M : Nat} {n : Int} {sl : Value} {sv st : Int} {come : List Int} {f : Int → Option Int} {bA : Nat} {a a2 : Int} {v v2 : Value} {acc acc2 : List Int}
    (h : WayS w W B M n sl sv st come f bA a v acc) (hB : B < w.heap.size) (hM : M < w.heap.size) (hg : W.grownBy W' none) (ho : OutV W' w.heap.size v2 acc2) :
    WayS w ((W'.setCell ⟨bA, 0, none⟩ (.int .i64 a2)).alloc (.cells #[.int .i64 a2] 111)) B M n sl sv st come f W'.heap.size a2 v2 acc2 := by
  have hA := h.hA
  obtain ⟨N, hN⟩ := h.Mp
  have hgs : W'.grownBy (W'.setCell ⟨bA, 0, none⟩ (.int .i64 a2)) (some bA) := grown_set W' bA 0 _
  have hga : (W'.setCell ⟨bA, 0, none⟩ (.int .i64 a2)).grownBy ((W'.setCell ⟨bA, 0, none⟩ (.int .i64 a2)).alloc (.cells #[.int .i64 a2] 111)) none := World.grownBy_alloc _ _ _
  have hne : ∀ k, k < W.heap.size → k ≠ bA → ((W'.setCell ⟨bA, 0, none⟩ (.int .i64 a2)).alloc (.cells #[.int .i64 a2] 111)).heap[k]? = W.heap[k]? := fun k h1 h2 =>
    (hga.block k (by have := hgs.size; have := hg.size; omega) (by simp)).trans ((hgs.block k (by have := hg.size; omega) (by simpa using h2)).trans (hg.block k h1 (by simp)))
  have hsz : w.heap.size ≤ W.heap.size := h.g.size
  have hAl := h.A.lt
  have hn := Blk.new (W'.setCell ⟨bA, 0, none⟩ (.int .i64 a2)) #[.int .i64 a2] 111
  have hs2 : (W'.setCell ⟨bA, 0, none⟩ (.int .i64 a2)).heap.size = W'.heap.size := by simp
  rw [hs2] at hn
  refine ⟨((h.S.kept hg (by simp)).kept hgs (by simp; omega)).kept hga (by simp), ⟨N, hN.move (hne M hN.lt (by omega))⟩, ((h.H.kept hg (by simp)).kept hgs (by simp; omega)).kept hga (by simp), hn, by have := hg.size; omega, (ho.far (h.A.kept hg (by simp)) 0 _).kept hga (fun r e => by cases e), ?_⟩
  have hs3 : W'.heap.size ≤ ((W'.setCell ⟨bA, 0, none⟩ (.int .i64 a2)).alloc (.cells #[.int .i64 a2] 111)).heap.size := by simp
  refine ⟨hga.os.trans (hgs.os.trans (hg.os.trans h.g.os)), hga.tape.trans (hgs.tape.trans (hg.tape.trans h.g.tape)), hga.output.trans (hgs.output.trans (hg.output.trans h.g.output)), Nat.le_trans h.g.size (Nat.le_trans hg.size hs3), fun k hk hne' => ?_⟩
  exact (hne k (by omega) (by omega)).trans (h.g.block k hk hne')

set_option maxHeartbeats 4000000 in
set_option maxRecDepth 100000 in
theorem way_calls (B M N : Nat) (n : Int) (A : Option Addr) (c : Nat) (l : List S58) (sv st : Int) (come : List Int) (f : Int → Option Int) (v : Int) (r : List Int) (w0 w : World) (fuel kr : Nat)
    (hS : SAt w B n (.slice A l.length c) sv st come (.map (some M))) (hM : MapAt w encK M N (fun k => (f k).map (Value.int .i64))) (hBM : B ≠ M)
    (hr : Kd.C k58 w0 A l.length l) (hw0 : w0.heap.size ≤ w.heap.size) (hkeep : ∀ k, k < w0.heap.size → w.heap[k]? = w0.heap[k]?) (hMge : w0.heap.size ≤ M)
    (hf : fuel ≤ 1000) (hway : wayL l sv fuel f v [] = some r) (hrev : slices_Reverse_int_int.f kr r = some r.reverse) :
    Calls Try.prog 65 #[.pointer (some ⟨B, 0, none⟩), .int .i64 v] w fun e w' => ∃ vo, e = .returned vo ∧ OutV w' w.heap.size vo r.reverse ∧ w.grownBy w' (some M) := by
  have hWS : ∀ W, W = (w.alloc (.cells #[.int .i64 sv] 111)).alloc (.cells #[.int .i64 v] 111) → WayS w W B M n (.slice A l.length c) sv st come f (w.heap.size + 1) v (.slice none 0 0) [] := by
    rintro _ rfl
    have b1 := Blk.new w #[.int .i64 sv] 111
    have b2 := Blk.new (w.alloc (.cells #[.int .i64 sv] 111)) #[.int .i64 v] 111
    simp only [World.size_alloc] at b2
    have g0 : w.grownBy ((w.alloc (.cells #[.int .i64 sv] 111)).alloc (.cells #[.int .i64 v] 111)) none := (World.grownBy_alloc _ _ _).trans (World.grownBy_alloc _ _ _)
    exact ⟨hS.kept g0 (by simp), ⟨N, hM.move (g0.block M hM.lt (by simp))⟩, b1.alloc _, b2, by omega, .inl ⟨rfl, rfl⟩, gmono g0 _⟩
  have HWS := Aside0.mk hWS
  clear hWS
  have HS := Aside0.mk hS
  have HM := Aside0.mk hM
  have HR := Aside0.mk hr
  have HKEEP := Aside0.mk hkeep
  have HWAY := Aside0.mk hway
  have HREV := Aside0.mk hrev
  have q2 := hS.c2
  have hle := hr.2.1
  have hMlt := hM.lt
  have hBlt := hS.lt
  clear hS hM hr hkeep hway hrev
  go_enter Try.func65, Try.ntmps65
  go_wp2_with fail
  go_step3
  go_wp2_with fail
  go_step3
  go_wp2_with fail
  go_loopg [5, 7] fuel (fun kq v5 v7 w' => ∃ (bA : Nat) (a : Int) (f' : Int → Option Int) (acc : List Int), v7 = .pointer (some ⟨bA, 0, none⟩) ∧ Aside0 (WayS w w' B M n (.slice A l.length c) sv st come f' bA a v5 acc) ∧ Aside0 (wayL l sv kq f' a acc = some r) ∧ Aside0 (acc.length + kq ≤ 1000))
  case atStart => exact ⟨_, v, f, [], rfl, ⟨HWS.out _ rfl⟩, HWAY, ⟨by simpa using hf⟩⟩
  case round =>
    obtain ⟨bA, a, f', acc, rfl, HW, HT, HL⟩ := hrel
    cases gk with
    | zero => have := HT.out; simp [wayL] at this
    | succ k1 =>
      have ch : wr.cell? ⟨w.heap.size, 0, none⟩ = some (.int .i64 sv) := HW.out.H.cell 0
      have ca : wr.cell? ⟨bA, 0, none⟩ = some (.int .i64 a) := HW.out.A.cell 0
      by_cases ha : a = sv
      · have hq : (a == sv) = true := by simp [ha]
        have he := eq111 a sv
        rw [hq] at he
        have HA := Lib.hid ha
        clear ha
        have hacc : acc = r := by have := HT.out; simp only [wayL, if_pos HA.out, Option.some.injEq] at this; exact this
        subst hacc
        go_wp2_with (go_at_call 81; refine (reverse_own HW.out.O HREV.out (by simp) HW.out.g.size).mono ?_; rintro e W1 ⟨rfl, ho, hq1, hs1, ho1, ht1, hu1⟩; have HO1 := Lib.hid ho; have HQ1 := Lib.hid hq1; clear ho hq1)
        rw [Exit.noGoto_ret]
        go_ret
        have hg := HW.out.g
        exact ⟨u5, rfl, HO1.out, ⟨ho1.trans hg.os, ht1.trans hg.tape, hu1.trans hg.output, Nat.le_trans hg.size hs1, fun k hk hne => (HQ1.out k hk).trans (hg.block k hk hne)⟩⟩
      · have hq : (a == sv) = false := by simp [ha]
        have he := eq111 a sv
        rw [hq] at he
        obtain ⟨i, hi⟩ : ∃ i, (f' a).getD 0 = i := ⟨_, rfl⟩
        have HT1 := HT.out
        rw [wayL, if_neg ha, hi] at HT1
        clear ha
        have hin : 0 ≤ i ∧ i < l.length := by
          rcases Classical.em (0 ≤ i ∧ i < l.length) with h | h
          · exact h
          · rw [if_neg h] at HT1; cases HT1
        rw [if_pos hin] at HT1
        have HT2 := Lib.hid HT1
        clear HT1 HT
        have cm0 := HW.out.S.cmap
        have hlk : ∀ q, (Instr.lookup 94 (.map (some M)) (.agg #[.int .i64 a]) false).run Try.prog (wr.drewN q) = .ok (.int .i64 i) (wr.drewN q) := by
          intro q
          obtain ⟨N', hN'⟩ := HW.out.Mp
          have := (hN'.move (w' := wr.drewN q) rfl).lookup keyOK Try.underlying94 (z := .int .i64 0) (fun w => by kernel_rfl) a false
          refine this.trans ?_
          rw [← hi]
          cases f' a <;> rfl
        go_upto_region 5 with (fail)
        go_quiet (fail)
        clear hlk cm0 ch ca he
        have HW1 := HW.out.kept (grown_of_below (below_dN (Below.refl wr.heap.size wr) nq) none)
        go_upto_region 6 with (fail)
        generalize wr.drewN nq = W1 at *
        obtain ⟨W1d, e1⟩ : ∃ W1d, W1.drew = W1d := ⟨_, rfl⟩
        have HW2 : WayS w W1d B M n (.slice A l.length c) sv st come f' bA a u5 acc := by rw [← e1]; exact HW1.kept (grown_of_below (below_drew (Below.refl W1.heap.size W1)) none)
        clear HW HW1
        have cm0 := HW2.S.cmap
        have ca : W1d.cell? ⟨bA, 0, none⟩ = some (.int .i64 a) := HW2.A.cell 0
        obtain ⟨N2, hN2⟩ := HW2.Mp
        obtain ⟨W2, hdel, hM2, hg2⟩ := hN2.delete keyOK Try.underlying94 (ty := 0) a #[94, 111] rfl
        have hdel' : ∀ ty, (Builtin.delete_ #[94, 111] ty #[.map (some M), .agg #[.int .i64 a]]).run Try.prog W1d = .ok (.tuple #[]) W2 := fun ty => hdel
        refine wp_region_still_tail 5 (by kernel_rfl) (by kernel_rfl) ?_
        simp only [List.take_succ_cons, List.take_zero, List.drop_succ_cons, List.drop_zero]
        generalize hzz : ({ heap := W1.heap, tape := W1.tape, drawn := W1.drawn + 1, os := W1.os, output := W1.output } : World) = Wz
        have hz1 : Wz = W1d := hzz.symm.trans e1
        subst hz1
        clear hzz
        repeat still_step
        refine wpStill_nil ?_
        go_upto_region 7 with (fail)
        have HW3 := HW2.deleted hBM hMlt hg2 hM2 (f2 := fun x => if x = a then none else f' x) (fun k => by split <;> rfl)
        clear hdel' hdel hM2 hN2 cm0 ca HW2 e1
        have hmx := HL.out
        obtain ⟨A', c', rfl, hc', v', W4, hap, hov, hg4⟩ := grow27 HW3.O (by omega) i
        have hcut := cut_full_27 A' acc.length c' hc'
        go_upto_region 8 with ((with_reducible refine gate_builtin (b := .append) (xs := #[.tmp 36, .tmp 38]) rfl ?_); at_builtin; refine append_run rfl (.tmp 36) (.tmp 38) 27 rfl _ _ v' W4 rfl rfl hap ?_)
        have hC : Kd.C k58 W4 A l.length l := hp58.C (fun q hq => (hg4.block q (by have := HW3.g.size; omega) (by simp)).trans ((HW3.g.block q (by omega) (by simp; omega)).trans (HKEEP.out q hq))) HR.out
        obtain ⟨ad, e0, hc0, hc1, hc2, hc3⟩ := at_T58 hC i hin.1 hin.2
        cases e0
        have b1 := (HW3.S.kept hg4 (by simp)).c1
        have ba := (HW3.A.kept hg4 (by simp)).cell 0
        have baf := (HW3.A.kept hg4 (by simp)).fz 0
        have HW5 := Lib.hid (HW3.on hBlt hMlt hg4 (hov.lower (HW3.g.size)) (a2 := (rd_T58 l i).f0))
        clear hC hap hcut HW3 hov hc1 hc2 hc3
        have hi1 := hin.1
        have hi2 := hin.2
        have hi3 : i.toNat < l.length := by omega
        go_wp2_with fail
        go_roundg k1
        case rel => exact ⟨W4.heap.size, (rd_T58 l i).f0, fun x => if x = a then none else f' x, acc ++ [i], rfl, ⟨HW5.out⟩, ⟨HT2.out⟩, ⟨by simp; omega⟩⟩
        case measure => omega
end Go.Proofs.Ytfhmepdbbhcncaa.P
