import Derived.Test.YtfhmepdbbhcncaaT5
import Derived.Test.YtfhmepdbbhcncaaPf23
import Derived.Test.YtfhmepdbbhcncaaPf25
import Derived.Test.YtfhmepdbbhcncaaPf27
namespace Go.Proofs.Ytfhmepdbbhcncaa.P
open Go.RowKit Go.Proofs.YtfhmepdbbhcncaaW.PrintWords Go.Proofs.YtfhmepdbbhcncaaW.PrintLast Go.Proofs.YtfhmepdbbhcncaaW.PrintMore
set_option linter.unusedVariables false
set_option linter.unusedSimpArgs false

theorem refCar_l0 (n : Int) (l : List S58) (come : List Int) (hc : come.length = 20) (hn : n ≤ 20) (hl : l.length ≤ 1000) (hm : ∀ m ∈ l, 0 ≤ m.f0 ∧ m.f0 < n) : ∀ (k i : Nat), l.length < k + i → i ≤ l.length →
    forecourtref05_Carried.l0 k (come.take n.toNat) (carT come l i) (i : Int) n l = some (carT come l l.length, 0)
  | 0, i, h, hi => by omega
  | k + 1, i, h, hi => by
    rw [forecourtref05_Carried.l0]
    by_cases hlt : i < l.length
    · obtain ⟨g0, g1⟩ := hm l[i] (List.getElem_mem hlt)
      have eg : l.getD i z58 = l[i] := by simp [List.getD, hlt]
      rw [if_pos (by omega), if_pos (by omega), rdT l i hlt, if_pos g0, if_pos (by rw [List.length_take]; omega), rd_gc, gc_take come n _ g0 g1, wrap_next i (by omega)]
      have ih := refCar_l0 n l come hc hn hl hm k (i + 1) (by omega) (by omega)
      rw [carT, eg] at ih
      by_cases ho : gc come l[i].f0 ≤ l[i].f2.f1
      · have hlen := carT_len come l i
        rw [if_pos ho, if_pos (by omega)]
        rw [if_pos (show come.getD l[i].f0.toNat 0 ≤ l[i].f2.f1 from ho)] at ih
        exact ih
      · rw [if_neg ho]
        rw [if_neg (show ¬ come.getD l[i].f0.toNat 0 ≤ l[i].f2.f1 from ho)] at ih
        exact ih
    · have : i = l.length := by omega
      rw [if_neg (by omega), this]
theorem refSure_l0 (n : Int) (come : List Int) (hc : come.length = 20) (hn0 : 0 ≤ n) (hn : n ≤ 20) : ∀ (k i : Nat), n.toNat < k + i → i ≤ n.toNat → forecourtref05_Sure.l0 k (come.take n.toNat) (sureT come i) (i : Int) = some (sureT come n.toNat, 0)
  | 0, i, h, hi => by omega
  | k + 1, i, h, hi => by
    rw [forecourtref05_Sure.l0]
    have hlen : (come.take n.toNat).length = n.toNat := by rw [List.length_take]; omega
    by_cases hlt : i < n.toNat
    · rw [if_pos (by omega), if_pos (by omega), rd_gc, gc_take come n _ (by omega) (by omega), wrap_next i (by omega)]
      have ih := refSure_l0 n come hc hn0 hn k (i + 1) (by omega) (by omega)
      rw [sureT] at ih
      have eg : gc come (i : Int) = come.getD i 0 := rfl
      rw [eg]
      by_cases ho : come.getD i 0 = 1048576
      · rw [if_pos ho]
        rw [if_pos ho] at ih
        exact ih
      · have hl2 := sureT_len come i
        rw [if_neg ho, if_pos (by omega)]
        rw [if_neg ho] at ih
        exact ih
    · have : i = n.toNat := by omega
      rw [if_neg (by omega), this]
theorem refArrivals (n : Int) (l : List S58) (sv st : Int) (hl : l.length ≤ 1000) (k : Nat) (hk : 3000 ≤ k) : forecourtref05_Arrivals.f k n l sv st = some (arrL n l sv st, openE n l sv st []) := by
  unfold forecourtref05_Arrivals.f arrL
  rw [refIsStart n l sv st hl k (by omega)]
  simp only [Option.bind_some]
  by_cases h0 : openE n l sv st [] = 0
  · obtain ⟨hy, hs, ht, _⟩ := open_parts h0
    rw [if_pos h0, if_pos h0, refArr false (-1) n l sv st hy ht hs (fun _ => true) (may_all hy) k (by omega), h0]
    rfl
  · rw [if_neg h0, if_neg h0]
theorem refCarried (n : Int) (l : List S58) (sv st : Int) (hl : l.length ≤ 1000) (k : Nat) (hk : 3000 ≤ k) : forecourtref05_Carried.f k n l sv st = some (carL n l sv st, openE n l sv st []) := by
  unfold forecourtref05_Carried.f carL
  rw [refIsStart n l sv st hl k (by omega)]
  simp only [Option.bind_some]
  by_cases h0 : openE n l sv st [] = 0
  · obtain ⟨hy, hs, ht, _⟩ := open_parts h0
    have h2 := hy.n2
    rw [if_pos h0, if_pos h0, refArr false (-1) n l sv st hy ht hs (fun _ => true) (may_all hy) k (by omega), h0]
    simp only [Option.bind_some]
    exact refCar_l0 n l _ (comeLen soonF _ hy (StepOK.soon hy) ht hs) (by omega) hl (fun m hm => by have := hy.mv m hm; omega) k 0 (by omega) (by omega)
  · rw [if_neg h0, if_neg h0]
theorem refSure (n : Int) (l : List S58) (sv st : Int) (hl : l.length ≤ 1000) (k : Nat) (hk : 3000 ≤ k) : forecourtref05_Sure.f k n l sv st = some (sureL n l sv st, openE n l sv st []) := by
  unfold forecourtref05_Sure.f sureL
  rw [refIsStart n l sv st hl k (by omega)]
  simp only [Option.bind_some]
  by_cases h0 : openE n l sv st [] = 0
  · obtain ⟨hy, hs, ht, _⟩ := open_parts h0
    have h2 := hy.n2
    rw [if_pos h0, if_pos h0, refArr true (-1) n l sv st hy ht hs (fun _ => true) (may_all hy) k (by omega), h0]
    simp only [Option.bind_some]
    exact refSure_l0 n _ (comeLen sureF _ hy (StepOK.sure hy) ht hs) (by omega) (by omega) k 0 (by omega) (by omega)
  · rw [if_neg h0, if_neg h0]
theorem arrL_len (n : Int) (l : List S58) (sv st : Int) : (arrL n l sv st).length ≤ 20 := by
  unfold arrL
  by_cases h0 : openE n l sv st [] = 0
  · obtain ⟨hy, hs, ht, _⟩ := open_parts h0
    rw [if_pos h0, List.length_take, comeLen soonF _ hy (StepOK.soon hy) ht hs]
    omega
  · rw [if_neg h0]; simp
theorem carL_len (n : Int) (l : List S58) (sv st : Int) : (carL n l sv st).length ≤ l.length := by
  unfold carL
  split
  · exact carT_len _ _ _
  · simp
theorem sureL_len (n : Int) (l : List S58) (sv st : Int) : (sureL n l sv st).length ≤ 20 := by
  unfold sureL
  by_cases h0 : openE n l sv st [] = 0
  · obtain ⟨hy, hs, ht, _⟩ := open_parts h0
    have := hy.n2
    have := sureT_len (runC sureF (fun _ => true) n l sv st).1 n.toNat
    rw [if_pos h0]
    omega
  · rw [if_neg h0]; simp
end Go.Proofs.Ytfhmepdbbhcncaa.P
