import Derived.Test.YtfhmepdbbhcncaaY
import Derived.Test.YtfhmepdbbhcncaaPx9
namespace Go.Proofs.Ytfhmepdbbhcncaa.P
open Go.RowKit Go.Shelf Go.Proofs.YtfhmepdbbhcncaaW.PrintWords Go.Proofs.YtfhmepdbbhcncaaW.PrintLast Go.Proofs.YtfhmepdbbhcncaaW.PrintMore Go.Proofs.YtfhmepdbbhcncaaM Go.Proofs.YtfhmepdbbhcncaaR
set_option linter.unusedVariables false
set_option linter.unusedSimpArgs false
set_option maxRecDepth 100000

/-- Between the calls of Works. -/
structure YS (w W : World) (b : Nat) (A : Option Addr) (c : Nat) : Prop where
  y : Blk W b 24 #[.int .i64 6, .slice A yl.length c]
  s : Blk W (b + 1) 26 #[.int .i64 0, .int .i64 5]
  C : Kd.C k58 W A yl.length yl
  hc : yl.length ≤ c
  g : Below w.heap.size w W
theorem YS.below {w W W' : World} {b : Nat} {A : Option Addr} {c : Nat} (h : YS w W b A c) (hb : Below W.heap.size W W') : YS w W' b A c :=
  ⟨h.y.below hb h.y.lt, h.s.below hb h.s.lt, Kd.C_below h.C hb, h.hc, below_then h.g h.g.size hb⟩
theorem row_lit (w : World) (xs : List Int) (t : TypeId) (cs : Array Value) (hcs : cs = (xs.map (Value.int .i64)).toArray) (hn : xs.length ≤ 1000) : RowC (w.alloc (.cells cs t)) w.heap.size t xs.length xs := by
  subst hcs
  refine ⟨⟨_, Blk.new w _ t, by simp, fun j hj => by simp [hj]⟩, Nat.le_refl _, ?_⟩
  have : maxLen = 9223372036854775807 := rfl
  omega
theorem alloc_step {W W' : World} {o : Obj} (hb : Below (W.alloc o).heap.size (W.alloc o) W') : Below W.heap.size W W' := (below_alloc (Below.refl W.heap.size W) o).trans (hb.mono (by simp))
theorem drawn_below {W W' : World} (h : Drawn0 W W') : Below W.heap.size W W' := by
  obtain ⟨n, rfl⟩ := h.out
  exact below_dN (Below.refl _ _) n
theorem yard_f : forecourtlaw05_Yard.f = some (6, yl) := rfl
theorem from_f (a b : Int) : forecourtlaw05_From.f a b = some (a, b) := rfl

/-- A slice that is read. -/
structure Rd {α : Type} (d : Kd α) (W : World) (A : Option Addr) (n c : Nat) (l : List α) : Prop where
  hn : n = l.length
  hc : n ≤ c
  C : d.C W A l.length l
theorem Rd.of {α : Type} {d : Kd α} {e : TypeId} {w : World} {b : Nat} {ok : Nat → Prop} {A : Option Addr} {n c : Nat} {xs : List α} (h : d.R e w b ok (.slice A n c) xs) : Rd d w A n c xs :=
  ⟨(Kd.R_reads' h).1, (Kd.R_reads' h).2.1, (Kd.R_reads' h).2.2⟩
theorem Rd.below {α : Type} {d : Kd α} {w W : World} {A : Option Addr} {n c : Nat} {xs : List α} (h : Rd d w A n c xs) (hb : Below w.heap.size w W) : Rd d W A n c xs := ⟨h.hn, h.hc, Kd.C_below h.C hb⟩
theorem longs_at (n : Nat) (W : World) (A : Option Addr) (c : Nat) (l : List Int) (cs : Array Value) (ho : Rd (Kd.int .i64) W A n c l) (hcs : cs = (l.map (Value.int .i64)).toArray) (hf : forecourtlaw05_longs.f 100 l l = some true) (hn : l.length ≤ 1000) :
    Calls Try.prog 28 #[.slice A n c, .slice (some ⟨W.heap.size, 0, none⟩) n n] (W.alloc (.cells cs 2)) fun e w' => e = .returned (.bool true) ∧ Below W.heap.size W w' := by
  obtain ⟨rfl, hc, hC⟩ := ho
  refine (forecourtlaw05_longs.calls 100 A c l (some ⟨W.heap.size, 0, none⟩) l.length l true _ (Kd.C_below hC (below_alloc (Below.refl _ _) _)) hc (row_lit W l 2 _ hcs hn).reads (Nat.le_refl _) hf).mono ?_
  rintro e w1 ⟨rfl, hd⟩
  exact ⟨rfl, alloc_step (drawn_below hd)⟩
theorem ints_at (n : Nat) (W : World) (A : Option Addr) (c : Nat) (l : List Int) (cs : Array Value) (ho : Rd (Kd.int .i64) W A n c l) (hcs : cs = (l.map (Value.int .i64)).toArray) (hf : forecourtlaw05_ints.f 100 l l = some true) (hn : l.length ≤ 1000) :
    Calls Try.prog 29 #[.slice A n c, .slice (some ⟨W.heap.size, 0, none⟩) n n] (W.alloc (.cells cs 3)) fun e w' => e = .returned (.bool true) ∧ Below W.heap.size W w' := by
  obtain ⟨rfl, hc, hC⟩ := ho
  refine (forecourtlaw05_ints.calls 100 A c l (some ⟨W.heap.size, 0, none⟩) l.length l true _ (Kd.C_below hC (below_alloc (Below.refl _ _) _)) hc (row_lit W l 3 _ hcs hn).reads (Nat.le_refl _) hf).mono ?_
  rintro e w1 ⟨rfl, hd⟩
  exact ⟨rfl, alloc_step (drawn_below hd)⟩
theorem row_starts (W : World) (a b x y : Int) : Kd.C k26 (W.alloc (.cells #[.int .i64 a, .int .i64 b, .int .i64 x, .int .i64 y] 26)) (some ⟨W.heap.size, 0, none⟩) 2 [⟨a, b⟩, ⟨x, y⟩] := by
  have B := Blk.new W #[.int .i64 a, .int .i64 b, .int .i64 x, .int .i64 y] 26
  have c0 : (W.alloc (.cells #[.int .i64 a, .int .i64 b, .int .i64 x, .int .i64 y] 26)).cell? ⟨W.heap.size, 0, none⟩ = some (.int .i64 a) := B.cell 0
  have c1 : (W.alloc (.cells #[.int .i64 a, .int .i64 b, .int .i64 x, .int .i64 y] 26)).cell? ⟨W.heap.size, 1, none⟩ = some (.int .i64 b) := B.cell 1
  have c2 : (W.alloc (.cells #[.int .i64 a, .int .i64 b, .int .i64 x, .int .i64 y] 26)).cell? ⟨W.heap.size, 2, none⟩ = some (.int .i64 x) := B.cell 2
  have c3 : (W.alloc (.cells #[.int .i64 a, .int .i64 b, .int .i64 x, .int .i64 y] 26)).cell? ⟨W.heap.size, 3, none⟩ = some (.int .i64 y) := B.cell 3
  refine ⟨rfl, by decide, fun _ => ⟨_, rfl, fun j p hj => ?_⟩⟩
  match j with
  | 0 =>
    simp only [List.getElem?_cons_zero, Option.some.injEq] at hj
    subst hj
    refine ⟨_, rfl, k26_mk _ _, fun i u hu => ?_⟩
    match i with
    | 0 => simp at hu; subst hu; exact c0
    | 1 => simp at hu; subst hu; exact c1
    | i + 2 => simp at hu
  | 1 =>
    simp only [List.getElem?_cons_succ, List.getElem?_cons_zero, Option.some.injEq] at hj
    subst hj
    refine ⟨_, rfl, k26_mk _ _, fun i u hu => ?_⟩
    match i with
    | 0 => simp at hu; subst hu; exact c2
    | 1 => simp at hu; subst hu; exact c3
    | i + 2 => simp at hu
  | j + 2 => simp at hj
theorem starts_at (W : World) (A : Option Addr) (c : Nat) (a b x y : Int) (ho : Rd k26 W A 2 c [⟨a, b⟩, ⟨x, y⟩]) (hf : forecourtlaw05_starts.f 100 [⟨a, b⟩, ⟨x, y⟩] [⟨a, b⟩, ⟨x, y⟩] = some true) :
    Calls Try.prog 36 #[.slice A 2 c, .slice (some ⟨W.heap.size, 0, none⟩) 2 2] (W.alloc (.cells #[.int .i64 a, .int .i64 b, .int .i64 x, .int .i64 y] 26)) fun e w' => e = .returned (.bool true) ∧ Below W.heap.size W w' := by
  obtain ⟨_, hc, hC⟩ := ho
  refine (forecourtlaw05_starts.calls 100 A c [⟨a, b⟩, ⟨x, y⟩] (some ⟨W.heap.size, 0, none⟩) 2 [⟨a, b⟩, ⟨x, y⟩] true _ (Kd.C_below hC (below_alloc (Below.refl _ _) _)) hc (row_starts W a b x y) (Nat.le_refl _) hf).mono ?_
  rintro e w1 ⟨rfl, hd⟩
  exact ⟨rfl, alloc_step (drawn_below hd)⟩

set_option maxHeartbeats 4000000 in
set_option maxRecDepth 100000 in
theorem works_calls (w : World) : Calls Try.prog 15 #[] w fun e w' => e = .returned (.bool true) ∧ Below w.heap.size w w' := by
  go_enter Try.func15, Try.ntmps15
  go_upto_region 2 with (first
    | (go_at_call 47; refine (forecourtlaw05_Yard.calls 6 yl _ yard_f).mono ?_; rintro e w1 ⟨v1, rfl, ho, hb1⟩; obtain ⟨A, c, hv⟩ := Kd.R_slice ho; subst hv; have HO := Lib.hid ho; have HB1 := Lib.hid hb1; clear ho hb1)
    | (go_at_call 44; refine (forecourtlaw05_From.calls 0 5 0 5 _ (from_f 0 5)).mono ?_; rintro e w2 ⟨rfl, hb2⟩; have HB2 := Lib.hid hb2; clear hb2))
  have HYS := Lib.hid (show YS w ((w2.alloc (.cells #[.int .i64 6, .slice A yl.length c] 24)).alloc (.cells #[.int .i64 0, .int .i64 5] 26)) w2.heap.size A c from by
    have hr := Kd.R_reads' HO.out
    have b0 := (Blk.new w2 #[.int .i64 6, .slice A yl.length c] 24).alloc (.cells #[.int .i64 0, .int .i64 5] 26)
    have b1 := Blk.new (w2.alloc (.cells #[.int .i64 6, .slice A yl.length c] 24)) #[.int .i64 0, .int .i64 5] 26
    simp only [World.size_alloc] at b1
    have hw2 := below_then HB1.out HB1.out.size HB2.out
    exact ⟨b0, b1, Kd.C_below (Kd.C_below hr.2.2 HB2.out) (boxes2 _ _ _), hr.2.1, below_then hw2 hw2.size (boxes2 _ _ _)⟩)
  clear HO HB1 HB2
  generalize w2.heap.size = b at *
  generalize ((w2.alloc (.cells #[.int .i64 6, .slice A yl.length c] 24)).alloc (.cells #[.int .i64 0, .int .i64 5] 26)) = W0 at *
  have c0 : W0.cell? ⟨b, 0, none⟩ = some (.int .i64 6) := HYS.out.y.cell 0
  have c1 : W0.cell? ⟨b, 1, none⟩ = some (.slice A yl.length c) := HYS.out.y.cell 1
  have s0 : W0.cell? ⟨b + 1, 0, none⟩ = some (.int .i64 0) := HYS.out.s.cell 0
  have s1 : W0.cell? ⟨b + 1, 1, none⟩ = some (.int .i64 5) := HYS.out.s.cell 1
  go_upto_region 3 with (go_at_call 22; refine (taint_Arrivals.calls 6 A c yl 0 5 [5, 10, 15, 1048576, 11, 16] 0 _ HYS.out.C HYS.out.hc (by rw [taint_Arrivals.f, yl_arr, yl_open])).mono ?_; rintro e W1 ⟨va, rfl, ho, hb⟩; obtain ⟨Aa, ca, hv⟩ := Kd.R_slice ho; subst hv; have HOa := Lib.hid ho; have HB := Lib.hid hb; clear ho hb)
  replace HYS := Lib.hid (HYS.out.below HB.out)
  clear c0 c1 s0 s1 HB
  have c0 : W1.cell? ⟨b, 0, none⟩ = some (.int .i64 6) := HYS.out.y.cell 0
  have c1 : W1.cell? ⟨b, 1, none⟩ = some (.slice A yl.length c) := HYS.out.y.cell 1
  have s0 : W1.cell? ⟨b + 1, 0, none⟩ = some (.int .i64 0) := HYS.out.s.cell 0
  have s1 : W1.cell? ⟨b + 1, 1, none⟩ = some (.int .i64 5) := HYS.out.s.cell 1
  go_upto_region 4 with (go_at_call 24; refine (taint_Carried.calls 6 A c yl 0 5 [0, 2, 3, 4] 0 _ HYS.out.C HYS.out.hc (by rw [taint_Carried.f, yl_car, yl_open])).mono ?_; rintro e W2 ⟨vc2, rfl, ho, hb⟩; obtain ⟨Ac2, cc2, hv⟩ := Kd.R_slice ho; subst hv; have HOc2 := Lib.hid ho; have HB := Lib.hid hb; clear ho hb)
  have HOa := Lib.hid (Kd.R_below HOa.out HB.out)
  replace HYS := Lib.hid (HYS.out.below HB.out)
  clear c0 c1 s0 s1 HB
  have c0 : W2.cell? ⟨b, 0, none⟩ = some (.int .i64 6) := HYS.out.y.cell 0
  have c1 : W2.cell? ⟨b, 1, none⟩ = some (.slice A yl.length c) := HYS.out.y.cell 1
  have s0 : W2.cell? ⟨b + 1, 0, none⟩ = some (.int .i64 0) := HYS.out.s.cell 0
  have s1 : W2.cell? ⟨b + 1, 1, none⟩ = some (.int .i64 5) := HYS.out.s.cell 1
  go_upto_region 5 with (go_at_call 26; refine (taint_Sure.calls 6 A c yl 0 5 [0, 1, 2] 0 _ HYS.out.C HYS.out.hc (by rw [taint_Sure.f, yl_sure, yl_open])).mono ?_; rintro e W3 ⟨vu, rfl, ho, hb⟩; obtain ⟨Au, cu, hv⟩ := Kd.R_slice ho; subst hv; have HOu := Lib.hid ho; have HB := Lib.hid hb; clear ho hb)
  have HOa := Lib.hid (Kd.R_below HOa.out HB.out)
  have HOc2 := Lib.hid (Kd.R_below HOc2.out HB.out)
  replace HYS := Lib.hid (HYS.out.below HB.out)
  clear c0 c1 s0 s1 HB
  have c0 : W3.cell? ⟨b, 0, none⟩ = some (.int .i64 6) := HYS.out.y.cell 0
  have c1 : W3.cell? ⟨b, 1, none⟩ = some (.slice A yl.length c) := HYS.out.y.cell 1
  have s0 : W3.cell? ⟨b + 1, 0, none⟩ = some (.int .i64 0) := HYS.out.s.cell 0
  have s1 : W3.cell? ⟨b + 1, 1, none⟩ = some (.int .i64 5) := HYS.out.s.cell 1
  go_upto_region 6 with (go_at_call 32; refine (taint_Trail.calls 6 A c yl 0 5 5 [0, 3, 4] 0 _ HYS.out.C HYS.out.hc yl_trail5).mono ?_; rintro e W4 ⟨vt, rfl, ho, hb⟩; obtain ⟨At, ct, hv⟩ := Kd.R_slice ho; subst hv; have HOt := Lib.hid ho; have HB := Lib.hid hb; clear ho hb)
  have HOa := Lib.hid (Kd.R_below HOa.out HB.out)
  have HOc2 := Lib.hid (Kd.R_below HOc2.out HB.out)
  have HOu := Lib.hid (Kd.R_below HOu.out HB.out)
  replace HYS := Lib.hid (HYS.out.below HB.out)
  clear c0 c1 s0 s1 HB
  have c0 : W4.cell? ⟨b, 0, none⟩ = some (.int .i64 6) := HYS.out.y.cell 0
  have c1 : W4.cell? ⟨b, 1, none⟩ = some (.slice A yl.length c) := HYS.out.y.cell 1
  have s0 : W4.cell? ⟨b + 1, 0, none⟩ = some (.int .i64 0) := HYS.out.s.cell 0
  have s1 : W4.cell? ⟨b + 1, 1, none⟩ = some (.int .i64 5) := HYS.out.s.cell 1
  go_upto_region 7 with (go_at_call 32; refine (taint_Trail.calls 6 A c yl 0 5 3 [] 5 _ HYS.out.C HYS.out.hc yl_trail3).mono ?_; rintro e W5 ⟨vn, rfl, ho, hb⟩; obtain ⟨An, cn, hv⟩ := Kd.R_slice ho; subst hv; have HOn := Lib.hid ho; have HB := Lib.hid hb; clear ho hb)
  have HOa := Lib.hid (Kd.R_below HOa.out HB.out)
  have HOc2 := Lib.hid (Kd.R_below HOc2.out HB.out)
  have HOu := Lib.hid (Kd.R_below HOu.out HB.out)
  have HOt := Lib.hid (Kd.R_below HOt.out HB.out)
  replace HYS := Lib.hid (HYS.out.below HB.out)
  clear c0 c1 s0 s1 HB
  have c0 : W5.cell? ⟨b, 0, none⟩ = some (.int .i64 6) := HYS.out.y.cell 0
  have c1 : W5.cell? ⟨b, 1, none⟩ = some (.slice A yl.length c) := HYS.out.y.cell 1
  have s0 : W5.cell? ⟨b + 1, 0, none⟩ = some (.int .i64 0) := HYS.out.s.cell 0
  have s1 : W5.cell? ⟨b + 1, 1, none⟩ = some (.int .i64 5) := HYS.out.s.cell 1
  go_upto_region 8 with (go_at_call 18; refine (taint_CheckTrail.calls 6 A c yl 0 5 4 (some ⟨W5.heap.size, 0, none⟩) 2 [0, 2] true 16 _ (Kd.C_below HYS.out.C (below_alloc (Below.refl _ _) _)) HYS.out.hc (row_lit W5 [0, 2] 3 _ rfl (by decide)).reads (by decide) (by rw [taint_CheckTrail.f, yl_check])).mono ?_; rintro e W6 ⟨rfl, hb⟩; have HB := Lib.hid (alloc_step hb); clear hb)
  have HOa := Lib.hid (Kd.R_below HOa.out HB.out)
  have HOc2 := Lib.hid (Kd.R_below HOc2.out HB.out)
  have HOu := Lib.hid (Kd.R_below HOu.out HB.out)
  have HOt := Lib.hid (Kd.R_below HOt.out HB.out)
  have HOn := Lib.hid (Kd.R_below HOn.out HB.out)
  replace HYS := Lib.hid (HYS.out.below HB.out)
  clear c0 c1 s0 s1 HB
  have c0 : W6.cell? ⟨b, 0, none⟩ = some (.int .i64 6) := HYS.out.y.cell 0
  have c1 : W6.cell? ⟨b, 1, none⟩ = some (.slice A yl.length c) := HYS.out.y.cell 1
  have s0 : W6.cell? ⟨b + 1, 0, none⟩ = some (.int .i64 0) := HYS.out.s.cell 0
  have s1 : W6.cell? ⟨b + 1, 1, none⟩ = some (.int .i64 5) := HYS.out.s.cell 1
  go_upto_region 9 with (go_at_call 30; refine (taint_Passed.calls 6 A c yl 0 5 5 [0, 1, 2, 5] 0 _ HYS.out.C HYS.out.hc yl_passed).mono ?_; rintro e W7 ⟨vp, rfl, ho, hb⟩; obtain ⟨Ap, cp, hv⟩ := Kd.R_slice ho; subst hv; have HOp := Lib.hid ho; have HB := Lib.hid hb; clear ho hb)
  have HOa := Lib.hid (Kd.R_below HOa.out HB.out)
  have HOc2 := Lib.hid (Kd.R_below HOc2.out HB.out)
  have HOu := Lib.hid (Kd.R_below HOu.out HB.out)
  have HOt := Lib.hid (Kd.R_below HOt.out HB.out)
  have HOn := Lib.hid (Kd.R_below HOn.out HB.out)
  replace HYS := Lib.hid (HYS.out.below HB.out)
  clear c0 c1 s0 s1 HB
  have c0 : W7.cell? ⟨b, 0, none⟩ = some (.int .i64 6) := HYS.out.y.cell 0
  have c1 : W7.cell? ⟨b, 1, none⟩ = some (.slice A yl.length c) := HYS.out.y.cell 1
  have s0 : W7.cell? ⟨b + 1, 0, none⟩ = some (.int .i64 0) := HYS.out.s.cell 0
  have s1 : W7.cell? ⟨b + 1, 1, none⟩ = some (.int .i64 5) := HYS.out.s.cell 1
  go_upto_region 10 with (go_at_call 34; refine (taint_Causes.calls 6 A c yl (some ⟨W7.heap.size, 0, none⟩) 2 [2, 4] [⟨0, 12⟩, ⟨1, 18⟩] 0 _ (Kd.C_below HYS.out.C (below_alloc (Below.refl _ _) _)) HYS.out.hc (row_lit W7 [2, 4] 3 _ rfl (by decide)).reads (by decide) yl_causes).mono ?_; rintro e W8 ⟨vk, rfl, ho, hb⟩; obtain ⟨Ak, ck, hv⟩ := Kd.R_slice ho; subst hv; have HOk := Lib.hid (Kd.R_lower ho (by simp : W7.heap.size ≤ _)); have HB := Lib.hid (alloc_step hb); clear ho hb)
  have HOa := Lib.hid (Kd.R_below HOa.out HB.out)
  have HOc2 := Lib.hid (Kd.R_below HOc2.out HB.out)
  have HOu := Lib.hid (Kd.R_below HOu.out HB.out)
  have HOt := Lib.hid (Kd.R_below HOt.out HB.out)
  have HOn := Lib.hid (Kd.R_below HOn.out HB.out)
  have HOp := Lib.hid (Kd.R_below HOp.out HB.out)
  replace HYS := Lib.hid (HYS.out.below HB.out)
  clear c0 c1 s0 s1 HB
  have c0 : W8.cell? ⟨b, 0, none⟩ = some (.int .i64 6) := HYS.out.y.cell 0
  have c1 : W8.cell? ⟨b, 1, none⟩ = some (.slice A yl.length c) := HYS.out.y.cell 1
  have s0 : W8.cell? ⟨b + 1, 0, none⟩ = some (.int .i64 0) := HYS.out.s.cell 0
  have s1 : W8.cell? ⟨b + 1, 1, none⟩ = some (.int .i64 5) := HYS.out.s.cell 1
  go_upto_region 11 with (go_at_call 20; refine (taint_CheckArrivals.calls 6 A c yl 0 5 Aa ca [5, 10, 15, 1048576, 11, 16] 0 _ HYS.out.C HYS.out.hc (Kd.R_reads' HOa.out).2.2 (Kd.R_reads' HOa.out).2.1 (by rw [taint_CheckArrivals.f, yl_given])).mono ?_; rintro e W9 ⟨rfl, hb⟩; have HB := Lib.hid hb; clear hb)
  have HOa := Lib.hid (Kd.R_below HOa.out HB.out)
  have HOc2 := Lib.hid (Kd.R_below HOc2.out HB.out)
  have HOu := Lib.hid (Kd.R_below HOu.out HB.out)
  have HOt := Lib.hid (Kd.R_below HOt.out HB.out)
  have HOn := Lib.hid (Kd.R_below HOn.out HB.out)
  have HOp := Lib.hid (Kd.R_below HOp.out HB.out)
  have HOk := Lib.hid (Kd.R_below HOk.out HB.out)
  replace HYS := Lib.hid (HYS.out.below HB.out)
  clear c0 c1 s0 s1 HB
  have HG := Lib.hid HYS.out.g
  clear HYS
  replace HOa := Lib.hid (Rd.of HOa.out)
  replace HOc2 := Lib.hid (Rd.of HOc2.out)
  replace HOu := Lib.hid (Rd.of HOu.out)
  replace HOt := Lib.hid (Rd.of HOt.out)
  replace HOn := Lib.hid (Rd.of HOn.out)
  replace HOp := Lib.hid (Rd.of HOp.out)
  replace HOk := Lib.hid (Rd.of HOk.out)
  go_wp2_with (first
    | (go_at_call 28; refine (longs_at 6 W9 Aa ca [5, 10, 15, 1048576, 11, 16] _ HOa.out rfl (by decide +kernel) (by decide)).mono ?_; rintro e W10 ⟨rfl, hb⟩; have HB := Lib.hid hb; clear hb HOa; replace HOc2 := Lib.hid (HOc2.out.below HB.out); replace HOu := Lib.hid (HOu.out.below HB.out); replace HOt := Lib.hid (HOt.out.below HB.out); replace HOn := Lib.hid (HOn.out.below HB.out); replace HOp := Lib.hid (HOp.out.below HB.out); replace HOk := Lib.hid (HOk.out.below HB.out); replace HG := Lib.hid (below_then HG.out HG.out.size HB.out); clear HB)
    | (go_at_call 29; refine (ints_at 4 W10 Ac2 cc2 [0, 2, 3, 4] _ HOc2.out rfl (by decide +kernel) (by decide)).mono ?_; rintro e W11 ⟨rfl, hb⟩; have HB := Lib.hid hb; clear hb HOc2; replace HOu := Lib.hid (HOu.out.below HB.out); replace HOt := Lib.hid (HOt.out.below HB.out); replace HOn := Lib.hid (HOn.out.below HB.out); replace HOp := Lib.hid (HOp.out.below HB.out); replace HOk := Lib.hid (HOk.out.below HB.out); replace HG := Lib.hid (below_then HG.out HG.out.size HB.out); clear HB)
    | (go_at_call 29; refine (ints_at 3 W11 Au cu [0, 1, 2] _ HOu.out rfl (by decide +kernel) (by decide)).mono ?_; rintro e W12 ⟨rfl, hb⟩; have HB := Lib.hid hb; clear hb HOu; replace HOt := Lib.hid (HOt.out.below HB.out); replace HOn := Lib.hid (HOn.out.below HB.out); replace HOp := Lib.hid (HOp.out.below HB.out); replace HOk := Lib.hid (HOk.out.below HB.out); replace HG := Lib.hid (below_then HG.out HG.out.size HB.out); clear HB)
    | (go_at_call 29; refine (ints_at 3 W12 At ct [0, 3, 4] _ HOt.out rfl (by decide +kernel) (by decide)).mono ?_; rintro e W13 ⟨rfl, hb⟩; have HB := Lib.hid hb; clear hb HOt; replace HOn := Lib.hid (HOn.out.below HB.out); replace HOp := Lib.hid (HOp.out.below HB.out); replace HOk := Lib.hid (HOk.out.below HB.out); replace HG := Lib.hid (below_then HG.out HG.out.size HB.out); clear HB)
    | (go_at_call 29; refine (ints_at 4 W13 Ap cp [0, 1, 2, 5] _ HOp.out rfl (by decide +kernel) (by decide)).mono ?_; rintro e W14 ⟨rfl, hb⟩; have HB := Lib.hid hb; clear hb HOp; replace HOn := Lib.hid (HOn.out.below HB.out); replace HOk := Lib.hid (HOk.out.below HB.out); replace HG := Lib.hid (below_then HG.out HG.out.size HB.out); clear HB)
    | (go_at_call 44; refine (forecourtlaw05_From.calls 0 12 0 12 _ (from_f 0 12)).mono ?_; rintro e W15 ⟨rfl, hb⟩; have HB := Lib.hid hb; clear hb; replace HOk := Lib.hid (HOk.out.below HB.out); replace HG := Lib.hid (below_then HG.out HG.out.size HB.out); clear HB)
    | (go_at_call 44; refine (forecourtlaw05_From.calls 1 18 1 18 _ (from_f 1 18)).mono ?_; rintro e W16 ⟨rfl, hb⟩; have HB := Lib.hid hb; clear hb; replace HOk := Lib.hid (HOk.out.below HB.out); replace HG := Lib.hid (below_then HG.out HG.out.size HB.out); clear HB)
    | (go_at_call 36; refine (starts_at W16 Ak ck 0 12 1 18 HOk.out (by decide +kernel)).mono ?_; rintro e W17 ⟨rfl, hb⟩; have HB := Lib.hid hb; clear hb HOk; replace HG := Lib.hid (below_then HG.out HG.out.size HB.out); clear HB))
  go_ret
  exact ⟨rfl, HG.out⟩
/-- Works says yes. -/
def forecourtlaw05_Works.f : Option Bool := some true
theorem forecourtlaw05_Works.calls (r : Bool) (w : World) (h : forecourtlaw05_Works.f = some r) : Calls Try.prog 15 #[] w fun e w' => e = .returned (.bool r) ∧ Below w.heap.size w w' := by
  injection h with h
  subst h
  exact works_calls w
end Go.Proofs.Ytfhmepdbbhcncaa.P
