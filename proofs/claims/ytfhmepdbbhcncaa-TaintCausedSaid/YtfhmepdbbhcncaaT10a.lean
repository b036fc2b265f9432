import Derived.Test.YtfhmepdbbhcncaaT1
import Derived.Test.YtfhmepdbbhcncaaT9
namespace Go.Proofs.Ytfhmepdbbhcncaa.P
open Go.RowKit Go.Proofs.YtfhmepdbbhcncaaW.PrintWords Go.Proofs.YtfhmepdbbhcncaaW.PrintLast Go.Proofs.YtfhmepdbbhcncaaW.PrintMore
set_option linter.unusedVariables false
set_option linter.unusedSimpArgs false

/-! Causes: what the program returns. -/
def carrB (n : Int) (l : List S58) (v t : Int) (i : Int) : Bool := decide (gc (runC soonF (fun _ => true) n l v t).1 (rd_T58 l i).f0 ≤ (rd_T58 l i).f2.f1)
theorem rd_mem {l : List S58} {i : Int} (h0 : 0 ≤ i) (h1 : i < (l.length : Int)) : rd_T58 l i ∈ l := by
  have := rdT l i.toNat (by omega)
  rw [show ((i.toNat : Nat) : Int) = i by omega] at this
  rw [this]
  exact List.getElem_mem _
theorem gc_minL (a b : List Int) (v : Int) (h0 : 0 ≤ v) (h1 : v < 20) : gc (minL a b) v = min (gc a v) (gc b v) := by
  have : v.toNat < 20 := by omega
  unfold gc minL
  simp [List.getD, this]
theorem carr_rd {n : Int} {l : List S58} {v t i : Int} : carrB n l v t i = true ↔ carr n l v t (rd_T58 l i) := by
  unfold carrB carr
  exact decide_eq_true_iff
theorem upF_ex {n : Int} {l : List S58} (hy : YardOK n l) : ∀ (sp : List Int) (up0 : List Int) (P : Int → Int → Prop), (∀ i ∈ sp, 0 ≤ i ∧ i < (l.length : Int)) → up0.length = 20 → (∀ v, 0 ≤ v → v < 20 → gc up0 v = 1048576 ∨ gc up0 v = -1 ∨ ∃ m ∈ l, gc up0 v = m.f2.f1) →
    (∀ v t, 0 ≤ v → v < n → 0 ≤ t → t ≤ 100000 → (P v t ↔ t ≤ gc up0 v)) → ∃ up, upF l sp up0 = some up ∧ up.length = 20 ∧ (∀ v, 0 ≤ v → v < 20 → (sp = [] ∧ gc up v = gc up0 v) ∨ gc up v = -1 ∨ ∃ m ∈ l, gc up v = m.f2.f1) ∧
    ∀ v t, 0 ≤ v → v < n → 0 ≤ t → t ≤ 100000 → ((P v t ∧ ∀ i ∈ sp, carr n l v t (rd_T58 l i)) ↔ t ≤ gc up v)
  | [], up0, P, _, hl, hval, hP => ⟨up0, rfl, hl, fun v _ _ => .inl ⟨rfl, rfl⟩, fun v t h0 h1 ht ht2 => ⟨fun h => (hP v t h0 h1 ht ht2).1 h.1, fun h => ⟨(hP v t h0 h1 ht ht2).2 h, fun i hi => by cases hi⟩⟩⟩
  | i :: is, up0, P, hsp, hl, hval, hP => by
    obtain ⟨g0, g1⟩ := hsp i (List.mem_cons_self ..)
    have hn := hy.n2
    obtain ⟨L, hL, hLl, hLv, hLc⟩ := lat_carr hy (rd_mem g0 g1)
    have hval1 : ∀ v, 0 ≤ v → v < 20 → gc (minL up0 L) v = -1 ∨ ∃ m ∈ l, gc (minL up0 L) v = m.f2.f1 := fun v h0 h1 => by
      rw [gc_minL _ _ v h0 h1]
      have hL1 : gc L v ≤ 100000 := by
        rcases hLv v h0 h1 with e | ⟨m, hm, e⟩
        · omega
        · have := hy.mv m hm
          omega
      rcases Int.le_total (gc up0 v) (gc L v) with e | e
      · rw [Int.min_eq_left e]
        rcases hval v h0 h1 with e2 | e2
        · omega
        · exact e2
      · rw [Int.min_eq_right e]
        exact hLv v h0 h1
    obtain ⟨up, hu, hul, huv, huc⟩ := upF_ex hy is (minL up0 L) (fun v t => P v t ∧ carr n l v t (rd_T58 l i)) (fun j hj => hsp j (List.mem_cons_of_mem _ hj)) (by simp [minL]) (fun v h0 h1 => .inr (hval1 v h0 h1)) (fun v t h0 h1 ht ht2 => by
      rw [gc_minL _ _ v h0 (by omega), hP v t h0 h1 ht ht2, hLc v t h0 h1 ht ht2]
      omega)
    refine ⟨up, by rw [upF, hL]; exact hu, hul, fun v h0 h1 => ?_, fun v t h0 h1 ht ht2 => ?_⟩
    · rcases huv v h0 h1 with ⟨_, e⟩ | e
      · rw [e]; exact .inr (hval1 v h0 h1)
      · exact .inr e
    · rw [← huc v t h0 h1 ht ht2]
      constructor
      · rintro ⟨hp, hall⟩
        exact ⟨⟨hp, hall i (List.mem_cons_self ..)⟩, fun j hj => hall j (List.mem_cons_of_mem _ hj)⟩
      · rintro ⟨⟨hp, hc⟩, hall⟩
        refine ⟨hp, fun j hj => ?_⟩
        rcases List.mem_cons.1 hj with rfl | hj
        · exact hc
        · exact hall j hj
/-- What Causes returns, and that it does. -/
structure CauseR (n : Int) (l : List S58) (sp : List Int) (up : List Int) : Prop where
  len : up.length = 20
  val : ∀ v, 0 ≤ v → v < 20 → gc up v = -1 ∨ ∃ m ∈ l, gc up v = m.f2.f1
  iff : ∀ v t, 0 ≤ v → v < n → 0 ≤ t → t ≤ 100000 → (sp.all (carrB n l v t) = true ↔ t ≤ gc up v)
theorem cause_ex {n : Int} {l : List S58} (hy : YardOK n l) {sp : List Int} (hne : sp ≠ []) (hsp : ∀ i ∈ sp, 0 ≤ i ∧ i < (l.length : Int)) : ∃ up, upF l sp (List.replicate 20 1048576) = some up ∧ CauseR n l sp up := by
  have hg0 : ∀ v : Int, 0 ≤ v → v < 20 → gc (List.replicate 20 1048576) v = 1048576 := fun v h0 h1 => by
    unfold gc
    rw [List.getD_eq_getElem?_getD, List.getElem?_replicate, if_pos (by omega)]
    rfl
  have hn := hy.n2
  obtain ⟨up, hu, hul, huv, huc⟩ := upF_ex hy sp (List.replicate 20 1048576) (fun _ _ => True) hsp (by simp) (fun v h0 h1 => .inl (hg0 v h0 h1)) (fun v t h0 h1 ht ht2 => by
    rw [hg0 v h0 (by omega)]
    exact ⟨fun _ => by omega, fun _ => trivial⟩)
  refine ⟨up, hu, hul, fun v h0 h1 => ?_, fun v t h0 h1 ht ht2 => ?_⟩
  · rcases huv v h0 h1 with ⟨e, _⟩ | e
    · exact absurd e hne
    · exact e
  · rw [← huc v t h0 h1 ht ht2, List.all_eq_true]
    exact ⟨fun h => ⟨trivial, fun i hi => carr_rd.1 (h i hi)⟩, fun h i hi => carr_rd.2 (h.2 i hi)⟩
end Go.Proofs.Ytfhmepdbbhcncaa.P
