import Derived.Test.YtfhmepdbbhcncaaE20
import Derived.Deep.MidRow
import Derived.Deep.WholeRow
namespace Go.Proofs.Ytfhmepdbbhcncaa.P
open Go.RowKit Go.Shelf Go.Proofs.YtfhmepdbbhcncaaW.PrintWords Go.Proofs.YtfhmepdbbhcncaaW.PrintLast Go.Proofs.YtfhmepdbbhcncaaW.PrintMore Go.Proofs.YtfhmepdbbhcncaaM Go.Proofs.YtfhmepdbbhcncaaR
set_option linter.unusedVariables false
set_option linter.unusedSimpArgs false

def latMove (o : List Int) (m : S58) : List Int := if m.f2.f0 ≤ o.getD m.f1.toNat 0 then o.set m.f0.toNat (max (o.getD m.f0.toNat 0) (min (o.getD m.f1.toNat 0) m.f2.f1)) else o
def latStep (l : List S58) (o : List Int) : List Int := l.foldl latMove o
def latF (l : List S58) : Nat → List Int → Option (List Int)
  | 0, _ => none
  | k + 1, o => if latStep l o = o then some o else latF l k (latStep l o)
def lat0 (m : S58) : List Int := (List.replicate 20 (-1)).set m.f0.toNat m.f2.f1
theorem latMove_len (o : List Int) (m : S58) : (latMove o m).length = o.length := by unfold latMove; split <;> simp

structure LatS (w W : World) (n : Int) (sl : Value) (m0 : S58) (out : List Int) : Prop where
  y : Blk W w.heap.size 24 #[.int .i64 n, sl]
  la : Blk W (w.heap.size + 1) 58 #[.int .i64 m0.f0, .int .i64 m0.f1, .int .i64 m0.f2.f0, .int .i64 m0.f2.f1]
  res : Blk W (w.heap.size + 1 + 1) 93 (arr (List.replicate 20 0))
  o : Blk W (w.heap.size + 1 + 1 + 1) 93 (arr out)
  len : out.length = 20
  g : Below w.heap.size w W
section
variable {w W W' : World} {n : Int} {sl : Value} {m0 : S58} {out : List Int}
theorem LatS.kept (h : LatS w W n sl m0 out) (hg : W.grownBy W' none) : LatS w W' n sl m0 out :=
  ⟨h.y.kept hg (by simp), h.la.kept hg (by simp), h.res.kept hg (by simp), h.o.kept hg (by simp), h.len, below_grown h.g hg (fun r e => by cases e)⟩
theorem LatS.far (h : LatS w W n sl m0 out) {b : Nat} (hb : w.heap.size + 1 + 1 + 1 < b) (hg : W.grownBy W' (some b)) : LatS w W' n sl m0 out :=
  ⟨h.y.kept hg (by simp; omega), h.la.kept hg (by simp; omega), h.res.kept hg (by simp; omega), h.o.kept hg (by simp; omega), h.len, below_grown h.g hg (fun r e => by cases e; omega)⟩
theorem LatS.set (h : LatS w W n sl m0 out) (v : Nat) (hv : v < 20) (t : Int) : LatS w (W.setCell ⟨w.heap.size + 1 + 1 + 1, v, none⟩ (.int .i64 t)) n sl m0 (out.set v t) := by
  have hg := grown_set W (w.heap.size + 1 + 1 + 1) v (.int .i64 t)
  have hl := h.len
  refine ⟨h.y.kept hg (by simp; omega), h.la.kept hg (by simp), h.res.kept hg (by simp), ?_, by simpa using hl, below_grown h.g hg (fun r e => by cases e; omega)⟩
  have := h.o.set v (.int .i64 t)
  have e : (arr out).setIfInBounds v (.int .i64 t) = arr (out.set v t) := by
    simp [arr, List.map_set]
  rw [e] at this
  exact this
theorem LatS.c (h : LatS w W n sl m0 out) (v : Nat) (hv : v < 20) : W.cell? ⟨w.heap.size + 1 + 1 + 1, v, none⟩ = some (.int .i64 (out.getD v 0)) := by
  have hl := h.len
  rw [h.o.cell]
  simp [arr, List.getD, show v < out.length by omega]
theorem LatS.fz (h : LatS w W n sl m0 out) (v : Nat) : W.frozen? ⟨w.heap.size + 1 + 1 + 1, v, none⟩ = false := h.o.fz v
end

theorem info93 : (Try.prog.info? 93).map (·.size) = some 20 := by kernel_rfl
theorem arr0 : arr (List.replicate 20 0) = #[.int .i64 0, .int .i64 0, .int .i64 0, .int .i64 0, .int .i64 0, .int .i64 0, .int .i64 0, .int .i64 0, .int .i64 0, .int .i64 0, .int .i64 0, .int .i64 0, .int .i64 0, .int .i64 0, .int .i64 0, .int .i64 0, .int .i64 0, .int .i64 0, .int .i64 0, .int .i64 0] := rfl
theorem guard93 : Try.prog.eqGuardType Try.prog.depth 93 = false := by kernel_rfl
/-- '==' of two times. -/
theorem eql_arr {ops : Array Oper} {rest : List Oper} {o : Oper} {a : Act} {W : World} {Q : Exit → Act → World → Prop} (hgd : o.guard = none) (x y : Tmp) (ty : TypeId) (ho : o.op = .binOp .eql 93 (.tmp x) (.tmp y) ty) (xs ys : List Int) (hx : a.eval (.tmp x) = .agg (arr xs)) (hy : a.eval (.tmp y) = .agg (arr ys))
    (hl : xs.length = 20) (hl2 : ys.length = 20) (h : wpList Try.prog ops Q rest (a.put o.dst (.bool (xs == ys))) W) : wpList Try.prog ops Q (o :: rest) a W := by
  refine wpList_plain hgd fun K hK => ?_
  unfold Oper.wp execOp
  have he := eq93 xs ys hl hl2 W
  have hg := guard93
  simp [ho, hx, hy, eqGuard, binOp, he, hg, Sem.run_bind, Result.andThen]
  exact hK _ _ h
theorem load_arr {ops : Array Oper} {rest : List Oper} {o : Oper} {a : Act} {W : World} {Q : Exit → Act → World → Prop} (hgd : o.guard = none) (x : Operand) (ho : o.op = .load 93 x) (b : Nat) (xs : List Int) (hx : a.eval x = .pointer (some ⟨b, 0, none⟩))
    (hb : Blk W b 93 (arr xs)) (hl : xs.length = 20) (h : wpList Try.prog ops Q rest (a.put o.dst (.agg (arr xs))) W) : wpList Try.prog ops Q (o :: rest) a W :=
  wpList_load_row hgd 93 x ho b hx 93 (arr xs) (0, 0) _ hb Try.underlying93 rfl (by rw [info93]; simp [arr, hl]) h
theorem store_arr {ops : Array Oper} {rest : List Oper} {o : Oper} {a : Act} {W : World} {Q : Exit → Act → World → Prop} (hgd : o.guard = none) (x y : Operand) (ho : o.op = .store 93 x y) (b : Nat) (xs ys : List Int) (hx : a.eval x = .pointer (some ⟨b, 0, none⟩)) (hy : a.eval y = .agg (arr xs))
    (hb : Blk W b 93 (arr ys)) (hl : xs.length = 20) (hl2 : ys.length = 20) (h : ∀ W', Blk W' b 93 (arr xs) → W.grownBy W' (some b) → wpList Try.prog ops Q rest (a.put o.dst undef) W') : wpList Try.prog ops Q (o :: rest) a W := by
  obtain ⟨cur', h1, h2, _, h4, _, h6⟩ := Blk.sets (arr xs).toList 0 W (arr ys) hb (by simp [arr, hl, hl2])
  have hc : cur' = arr xs := by
    apply Array.ext_getElem?
    intro j
    by_cases hj : j < 20
    · have := h4 j (by simp [arr, hl, hj])
      rw [Nat.zero_add] at this
      rw [this, Array.getElem?_toList]
    · rw [Array.getElem?_eq_none (by rw [h2]; simp [arr, hl2]; omega), Array.getElem?_eq_none (by simp [arr, hl]; omega)]
  subst hc
  refine wpList_store_mid hgd 93 x y ho b 0 (arr xs) hx hy (fun j hj => ?_) (by rw [info93]; simp [arr, hl]) (by simp [arr, Value.oneCell']) (h _ h1 h6)
  refine ⟨?_, hb.fz _⟩
  rw [Nat.zero_add, hb.cell]
  have hj2 : j < 20 := by simpa [arr, hl] using hj
  simp [arr, hl2, hj2]

set_option maxHeartbeats 4000000 in
set_option maxRecDepth 100000 in
theorem latest_calls (n : Int) (A : Option Addr) (c : Nat) (l : List S58) (m0 : S58) (r : List Int) (K : Nat) (w : World) (hr : Kd.C k58 w A l.length l) (hy : YardOK n l) (hm : m0 ∈ l) (h : latF l K (lat0 m0) = some r) :
    Calls Try.prog 68 #[.agg #[.int .i64 n, .slice A l.length c], enc58 m0] w fun e w' => e = .returned (.agg (arr r)) ∧ r.length = 20 ∧ Below w.heap.size w w' := by
  have HR := Lib.hid hr
  have HY := Lib.hid hy
  have HM := Lib.hid (hy.mv m0 hm)
  have HF := Lib.hid h
  have hlm := hr.2.1
  have e58 : enc58 m0 = .agg #[.int .i64 m0.f0, .int .i64 m0.f1, .int .i64 m0.f2.f0, .int .i64 m0.f2.f1] := rfl
  have HS0 := Lib.hid (show LatS w ((((w.alloc (.cells #[.int .i64 n, .slice A l.length c] 24)).alloc (.cells #[.int .i64 m0.f0, .int .i64 m0.f1, .int .i64 m0.f2.f0, .int .i64 m0.f2.f1] 58)).alloc (.cells (arr (List.replicate 20 0)) 93)).alloc (.cells (arr (List.replicate 20 0)) 93)) n (.slice A l.length c) m0 (List.replicate 20 0) from by
    have b0 := ((Blk.new w #[.int .i64 n, .slice A l.length c] 24).alloc (.cells #[.int .i64 m0.f0, .int .i64 m0.f1, .int .i64 m0.f2.f0, .int .i64 m0.f2.f1] 58)).alloc (.cells (arr (List.replicate 20 0)) 93) |>.alloc (.cells (arr (List.replicate 20 0)) 93)
    have b1 := ((Blk.new (w.alloc (.cells #[.int .i64 n, .slice A l.length c] 24)) #[.int .i64 m0.f0, .int .i64 m0.f1, .int .i64 m0.f2.f0, .int .i64 m0.f2.f1] 58).alloc (.cells (arr (List.replicate 20 0)) 93)).alloc (.cells (arr (List.replicate 20 0)) 93)
    have b2 := (Blk.new ((w.alloc (.cells #[.int .i64 n, .slice A l.length c] 24)).alloc (.cells #[.int .i64 m0.f0, .int .i64 m0.f1, .int .i64 m0.f2.f0, .int .i64 m0.f2.f1] 58)) (arr (List.replicate 20 0)) 93).alloc (.cells (arr (List.replicate 20 0)) 93)
    have b3 := Blk.new (((w.alloc (.cells #[.int .i64 n, .slice A l.length c] 24)).alloc (.cells #[.int .i64 m0.f0, .int .i64 m0.f1, .int .i64 m0.f2.f0, .int .i64 m0.f2.f1] 58)).alloc (.cells (arr (List.replicate 20 0)) 93)) (arr (List.replicate 20 0)) 93
    simp only [World.size_alloc] at b1 b2 b3
    exact ⟨b0, b1, b2, b3, by simp, (boxes3 w _ _ _).alloc (by simp; omega) _⟩)
  rw [e58]
  clear hr hy hm h e58
  go_enter Try.func68, Try.ntmps68
  go_wp2_with fail
  go_loopg [10] 20 (fun kq v10 w' => ∃ (k : Nat) (out : List Int), v10 = .int .i64 k ∧ Aside0 (k + kq = 20) ∧ Aside0 (LatS w w' n (.slice A l.length c) m0 out) ∧ Aside0 (∀ j, j < k → out.getD j 0 = -1))
  case atStart => exact ⟨0, List.replicate 20 0, rfl, ⟨by omega⟩, ⟨HS0.out⟩, ⟨fun j hj => absurd hj (by omega)⟩⟩
  case round =>
    obtain ⟨k, out, rfl, HN, HS, HC⟩ := hrel
    cases gk with
    | succ k1 =>
      have hk : (k : Int) < 20 := by have := HN.out; omega
      have hc := HS.out.c k (by omega)
      have hf := HS.out.fz k
      go_wp2
      go_roundg k1
      case rel => exact ⟨k + 1, _, by go_num, ⟨by have := HN.out; omega⟩, ⟨HS.out.set k (by omega) (-1)⟩, ⟨fun j hj => by
        have hl2 := HS.out.len
        by_cases e : j = k
        · subst e; rw [List.getD_eq_getElem?_getD, List.getElem?_set_self (by omega)]; rfl
        · have := HC.out j (by omega); simpa [List.getElem?_set, Ne.symm e] using this⟩⟩
      case measure => omega
    | zero =>
      have hk : k = 20 := by have := HN.out; omega
      have HCM : out = List.replicate 20 (-1) := by
        have hl2 := HS.out.len
        apply List.ext_getElem
        · simp [hl2]
        · intro j h1 h2
          have := HC.out j (by omega)
          rw [List.getElem_replicate]
          simpa [h1] using this
      subst HCM hk
      obtain ⟨hm1, hm2, _⟩ := HM.out
      have hn2 := HY.out.n2
      have hm20 : m0.f0 < 20 := by omega
      have la0 : wr.cell? ⟨w.heap.size + 1, 0, none⟩ = some (.int .i64 m0.f0) := HS.out.la.cell 0
      have la3 : wr.cell? ⟨w.heap.size + 1, 3, none⟩ = some (.int .i64 m0.f2.f1) := HS.out.la.cell 3
      have hc := HS.out.c m0.f0.toNat (by omega)
      have hf := HS.out.fz m0.f0.toNat
      have HS1 := Lib.hid (HS.out.set m0.f0.toNat (by omega) m0.f2.f1)
      clear HS HC
      go_wp2_with fail
      have HS2 := HS1.out
      generalize wr.setCell ⟨w.heap.size + 1 + 1 + 1, m0.f0.toNat, none⟩ (.int .i64 m0.f2.f1) = Wa at *
      clear hc hf la0 la3 HS1
      go_loopg [] K (fun kq w' => ∃ (out : List Int), Aside0 (LatS w w' n (.slice A l.length c) m0 out) ∧ Aside0 (latF l kq out = some r))
      case atStart => exact ⟨lat0 m0, ⟨HS2⟩, ⟨HF.out⟩⟩
      case round =>
        clear HS2
        obtain ⟨out, HS, HT⟩ := hrel
        cases gk with
        | zero => have := HT.out; simp [latF] at this
        | succ k1 =>
          have HSb0 := HS.out.kept (World.grownBy_alloc wr (.cells #[.int .i64 0, .int .i64 0, .int .i64 0, .int .i64 0, .int .i64 0, .int .i64 0, .int .i64 0, .int .i64 0, .int .i64 0, .int .i64 0, .int .i64 0, .int .i64 0, .int .i64 0, .int .i64 0, .int .i64 0, .int .i64 0, .int .i64 0, .int .i64 0, .int .i64 0, .int .i64 0] 93) none)
          have HBb0 := Blk.new wr #[.int .i64 0, .int .i64 0, .int .i64 0, .int .i64 0, .int .i64 0, .int .i64 0, .int .i64 0, .int .i64 0, .int .i64 0, .int .i64 0, .int .i64 0, .int .i64 0, .int .i64 0, .int .i64 0, .int .i64 0, .int .i64 0, .int .i64 0, .int .i64 0, .int .i64 0, .int .i64 0] 93
          have hbB : w.heap.size + 1 + 1 + 1 < wr.heap.size := HS.out.o.lt
          go_upto_region 9 with (first
            | ((with_reducible refine gate_dst (N := 22) rfl ?_); refine load_arr rfl (.tmp 5) rfl (w.heap.size + 1 + 1 + 1) out rfl HS.out.o HS.out.len ?_)
            | ((with_reducible refine gate_store (t := 93) (p := 7) rfl ?_); refine store_arr rfl (.tmp 7) (.tmp 22) rfl wr.heap.size out (List.replicate 20 0) rfl rfl HBb0 HS.out.len rfl ?_; intro Wb hb1 hg1; have HBb := Lib.hid hb1; have HGb := Lib.hid hg1; clear hb1 hg1))
          have HSb : LatS w Wb n (.slice A l.length c) m0 out := HSb0.far hbB HGb.out
          clear HS HSb0 HBb0
          have HBb := HBb.out
          generalize wr.heap.size = bB at *
          have cy : Wb.cell? ⟨w.heap.size, 1, none⟩ = some (.slice A l.length c) := HSb.y.cell 1
          go_wp2_with fail
          clear cy
          go_loopg [26] l.length (fun kq v26 w' => ∃ (k : Nat) (o2 : List Int), v26 = .int .i64 k ∧ Aside0 (k + kq = l.length) ∧ Aside0 ((l.take k).foldl latMove out = o2) ∧ Aside0 (LatS w w' n (.slice A l.length c) m0 o2) ∧ Aside0 (Blk w' bB 93 (arr out)))
          case atStart => exact ⟨0, out, rfl, ⟨by omega⟩, ⟨rfl⟩, ⟨HSb⟩, ⟨HBb⟩⟩
          case round =>
            clear HBb
            obtain ⟨k, o2, rfl, HN2, HO2, HS2, HB2⟩ := hrel
            cases gk with
            | succ k2 =>
              have hlt : k < l.length := by have := HN2.out; omega
              have hl4 : decide ((k : Int) < (l.length : Int)) = true := decide_eq_true (by omega)
              have hl5 : decide (k < l.length) = true := decide_eq_true hlt
              have hC := Kd.C_below HR.out HS2.out.g
              obtain ⟨ad, e0, hc0, hc1, hc2, hc3⟩ := at_T58 hC (k : Int) (by omega) (by omega)
              cases e0
              have hmem : rd_T58 l (k : Int) ∈ l := by rw [rd_T58_nat l k hlt]; exact List.getElem_mem hlt
              have HMM := Lib.hid (HY.out.mv _ hmem)
              have HO3 := Lib.hid (show (l.take (k + 1)).foldl latMove out = latMove o2 (rd_T58 l (k : Int)) by rw [foldl_take_succ _ _ _ _ hlt, HO2.out, rd_T58_nat l k hlt])
              rw [Int.toNat_natCast] at hc0 hc1 hc2 hc3
              clear hC hmem
              generalize rd_T58 l (k : Int) = m at *
              obtain ⟨hm01, hm02, hm11, hm12, _⟩ := HMM.out
              have hbk := Blk.new wr #[.int .i64 m.f0, .int .i64 m.f1, .int .i64 m.f2.f0, .int .i64 m.f2.f1] 58
              have hs3 := HS2.out.kept (World.grownBy_alloc wr (.cells #[.int .i64 m.f0, .int .i64 m.f1, .int .i64 m.f2.f0, .int .i64 m.f2.f1] 58) none)
              have hb3 := HB2.out.kept (World.grownBy_alloc wr (.cells #[.int .i64 m.f0, .int .i64 m.f1, .int .i64 m.f2.f0, .int .i64 m.f2.f1] 58) none) (by simp)
              have hbM : bB < wr.heap.size := HB2.out.lt
              go_upto_region 12 with (fail)
              generalize wr.heap.size = bM at *
              generalize wr.alloc (.cells #[.int .i64 m.f0, .int .i64 m.f1, .int .i64 m.f2.f0, .int .i64 m.f2.f1] 58) = W3 at *
              clear hc0 hc1 hc2 hc3 HS2 HB2
              have g0 : W3.cell? ⟨bM, 0, none⟩ = some (.int .i64 m.f0) := hbk.cell 0
              have g1 : W3.cell? ⟨bM, 1, none⟩ = some (.int .i64 m.f1) := hbk.cell 1
              have g2 : W3.cell? ⟨bM, 2, none⟩ = some (.int .i64 m.f2.f0) := hbk.cell 2
              have g3 : W3.cell? ⟨bM, 3, none⟩ = some (.int .i64 m.f2.f1) := hbk.cell 3
              have ct := hs3.c m.f1.toNat (by omega)
              have hm120 : m.f1 < 20 := by omega
              have hm020 : m.f0 < 20 := by omega
              obtain ⟨t, ht⟩ : ∃ t, o2.getD m.f1.toNat 0 = t := ⟨_, rfl⟩
              rw [ht] at ct
              have HT2 := Lib.hid ht
              have HS3 := Lib.hid hs3
              have HB3 := Lib.hid hb3
              have HBK := Lib.hid hbk
              clear ht hs3 hb3 hbk
              by_cases hge : m.f2.f0 ≤ t
              · have hq1 : decide (t ≥ m.f2.f0) = true := decide_eq_true hge
                have HO4 := Lib.hid (HO3.out.trans (if_pos (by rw [HT2.out]; exact hge)))
                clear hge
                go_quiet (fail)
                go_upto_region 13 with (fail)
                obtain ⟨W4, e4⟩ : ∃ W4, (W3.drewN nq).drew = W4 := ⟨_, rfl⟩
                have gq : W3.grownBy W4 none := by rw [← e4]; exact grown_of_below (below_drew (below_dN (Below.refl _ _) _)) none
                have hs4 := HS3.out.kept gq
                have HB4 := Lib.hid (HB3.out.kept gq (by simp))
                have hbk4 := HBK.out.kept gq (by simp)
                clear g0 g1 g2 g3 ct
                have g0 : W4.cell? ⟨bM, 0, none⟩ = some (.int .i64 m.f0) := hbk4.cell 0
                have g1 : W4.cell? ⟨bM, 1, none⟩ = some (.int .i64 m.f1) := hbk4.cell 1
                have g3 : W4.cell? ⟨bM, 3, none⟩ = some (.int .i64 m.f2.f1) := hbk4.cell 3
                have ct := hs4.c m.f1.toNat (by omega)
                have cf := hs4.c m.f0.toNat (by omega)
                have cfz := hs4.fz m.f0.toNat
                rw [HT2.out] at ct
                obtain ⟨t0, ht0⟩ : ∃ t0, o2.getD m.f0.toNat 0 = t0 := ⟨_, rfl⟩
                rw [ht0] at cf
                have HT0 := Lib.hid ht0
                have HS5 := Lib.hid (hs4.set m.f0.toNat (by omega) (max t0 (min t m.f2.f1)))
                clear ht0 hs4 hbk4
                refine wp_region_still_tail 16 (by kernel_rfl) (by kernel_rfl) ?_
                simp only [List.take_succ_cons, List.take_zero, List.drop_succ_cons, List.drop_zero]
                generalize hzz : ({ heap := (W3.drewN nq).heap, tape := (W3.drewN nq).tape, drawn := (W3.drewN nq).drawn + 1, os := (W3.drewN nq).os, output := (W3.drewN nq).output } : World) = Wz
                have hz1 : Wz = W4 := hzz.symm.trans e4
                subst hz1
                clear hzz
                repeat still_step
                refine wpStill_nil ?_
                go_wp2_with fail
                go_roundg k2
                case rel => exact ⟨k + 1, o2.set m.f0.toNat (max t0 (min t m.f2.f1)), by go_num, ⟨by have := HN2.out; omega⟩, ⟨by rw [HO4.out, HT2.out, HT0.out]⟩, ⟨HS5.out⟩, ⟨HB4.out.kept (grown_set _ _ _ _) (by simp; omega)⟩⟩
                case measure => omega
              · have hq1 : decide (t ≥ m.f2.f0) = false := decide_eq_false hge
                have HO4 := Lib.hid (HO3.out.trans (if_neg (by rw [HT2.out]; exact hge)))
                clear hge
                go_quiet (fail)
                have gq : W3.grownBy (W3.drewN nq) none := grown_of_below (below_dN (Below.refl _ _) _) none
                have HS4 := Lib.hid (HS3.out.kept gq)
                have HB4 := Lib.hid (HB3.out.kept gq (by simp))
                go_wp2_with fail
                go_roundg k2
                case rel => exact ⟨k + 1, o2, by go_num, ⟨by have := HN2.out; omega⟩, ⟨HO4.out⟩, ⟨HS4.out⟩, ⟨HB4.out⟩⟩
                case measure => omega
            | zero =>
              have hk : k = l.length := by have := HN2.out; omega
              subst hk
              have hl4 : decide ((l.length : Int) < (l.length : Int)) = false := decide_eq_false (by omega)
              have hl5 : decide (l.length < l.length) = false := decide_eq_false (by omega)
              have hst : latStep l out = o2 := by have := HO2.out; rw [List.take_length] at this; exact this
              have HST := Lib.hid hst
              have hol := HSb.len
              have heq := eq93 o2 out HS2.out.len HSb.len
              clear hst
              by_cases hoo : o2 = out
              · have hq : (o2 == out) = true := by simp [hoo]
                rw [hq] at heq
                have HOO := Lib.hid hoo
                clear hoo heq
                have HQ3 := hq
                go_wp2_with (first
                  | ((with_reducible refine gate_dst (N := 57) rfl ?_); refine eql_arr rfl 55 56 _ rfl o2 out rfl rfl HS2.out.len hol ?_; rw [HQ3])
                  | ((with_reducible refine gate_dst (N := 55) rfl ?_); refine load_arr rfl (.tmp 5) rfl (w.heap.size + 1 + 1 + 1) o2 rfl HS2.out.o HS2.out.len ?_)
                  | ((with_reducible refine gate_dst (N := 56) rfl ?_); refine load_arr rfl (.tmp 7) rfl bB out rfl HB2.out hol ?_)
                  | ((with_reducible refine gate_dst (N := 58) rfl ?_); refine load_arr rfl (.tmp 5) rfl (w.heap.size + 1 + 1 + 1) o2 rfl HS2.out.o HS2.out.len ?_)
                  | ((with_reducible refine gate_store (t := 93) (p := 4) rfl ?_); refine store_arr rfl (.tmp 4) (.tmp 58) rfl (w.heap.size + 1 + 1) o2 (List.replicate 20 0) rfl rfl HS2.out.res HS2.out.len rfl ?_; intro Wf hb1 hg1; have HBf := Lib.hid hb1; have HGf := Lib.hid hg1; clear hb1 hg1))
                refine bodyPost_ret (results_cell_row rfl _ _ (w.heap.size + 1 + 1) 93 (arr o2) (0, 0) _ rfl HBf.out Try.underlying93 rfl (by rw [info93]; simp [arr, HS2.out.len])) rfl ?_
                have hrr : out = r := by have := HT.out; rw [latF, HST.out, if_pos HOO.out] at this; injection this
                exact ⟨by rw [HOO.out, hrr], by rw [← hrr]; exact hol, below_grown HS2.out.g HGf.out (fun r e => by cases e; omega)⟩
              · have hq : (o2 == out) = false := by simp [hoo]
                rw [hq] at heq
                have HOO := Lib.hid hoo
                clear hoo heq
                have HQ3 := hq
                go_wp2_with (first
                  | ((with_reducible refine gate_dst (N := 57) rfl ?_); refine eql_arr rfl 55 56 _ rfl o2 out rfl rfl HS2.out.len hol ?_; rw [HQ3])
                  | ((with_reducible refine gate_dst (N := 55) rfl ?_); refine load_arr rfl (.tmp 5) rfl (w.heap.size + 1 + 1 + 1) o2 rfl HS2.out.o HS2.out.len ?_)
                  | ((with_reducible refine gate_dst (N := 56) rfl ?_); refine load_arr rfl (.tmp 7) rfl bB out rfl HB2.out hol ?_))
                go_roundg k1
                case rel => exact ⟨o2, ⟨HS2.out⟩, ⟨by have := HT.out; rw [latF, HST.out, if_neg HOO.out] at this; exact this⟩⟩
                case measure => omega
end Go.Proofs.Ytfhmepdbbhcncaa.P
