import Derived.Test.YtfhmepdbbhcncaaE17
import Derived.Shelf.Sort.Plain
import Derived.Shelf.Slices.In.SortNone
import Derived.Sort.OwnSortedInts
namespace Go.Proofs.Ytfhmepdbbhcncaa.P
open Go.RowKit Go.Shelf Go.Proofs.YtfhmepdbbhcncaaW.PrintWords Go.Proofs.YtfhmepdbbhcncaaW.PrintLast Go.Proofs.YtfhmepdbbhcncaaW.PrintMore Go.Proofs.YtfhmepdbbhcncaaM Go.Proofs.YtfhmepdbbhcncaaR
set_option linter.unusedVariables false
set_option linter.unusedSimpArgs false

def lays189_ren : Ren where
  f := fun x => match x with | 189 => 67 | 125 => 83 | 257 => 82 | 128 => 94 | 129 => 95 | 294 => 85 | 295 => 86 | 296 => 87 | 297 => 88 | 298 => 89 | 299 => 90 | 216 => 91 | 300 => 92 | 301 => 93 | 328 => 96 | 329 => 97 | 330 => 98 | 331 => 99 | 332 => 100 | 215 => 101 | 343 => 102 | n => n
  t := fun x => match x with | 28 => 27 | 3 => 3 | 46 => 114 | 0 => 0 | 51 => 60 | 53 => 65 | 4 => 4 | 183 => 118 | 182 => 117 | 131 => 123 | 5 => 5 | 9 => 9 | 218 => 127 | 222 => 131 | 228 => 133 | 229 => 134 | n => n
  g := fun x => x
theorem lays189 : Lays.n189 Try.prog lays189_ren where
  mixed := rfl
  f125 := Try.func83.trans rfl
  f128 := Try.func94.trans rfl
  f129 := Try.func95.trans rfl
  f189 := Try.func67.trans rfl
  f215 := Try.func101.trans rfl
  f216 := Try.func91.trans rfl
  f257 := Try.func82.trans rfl
  f294 := Try.func85.trans rfl
  f295 := Try.func86.trans rfl
  f296 := Try.func87.trans rfl
  f297 := Try.func88.trans rfl
  f298 := Try.func89.trans rfl
  f299 := Try.func90.trans rfl
  f300 := Try.func92.trans rfl
  f301 := Try.func93.trans rfl
  f328 := Try.func96.trans rfl
  f329 := Try.func97.trans rfl
  f330 := Try.func98.trans rfl
  f331 := Try.func99.trans rfl
  f332 := Try.func100.trans rfl
  f343 := Try.func102.trans rfl
  t0 := Try.underlying0
  a0 := Try.isAgg0
  z0 := Try.sizeOf0
  v0 := Try.zeroValue0
  t3 := Try.underlying3
  a3 := Try.isAgg3
  z3 := Try.sizeOf3
  v3 := Try.zeroValue3
  t4 := Try.underlying4
  a4 := Try.isAgg4
  z4 := Try.sizeOf4
  v4 := Try.zeroValue4
  t5 := Try.underlying5
  a5 := Try.isAgg5
  z5 := Try.sizeOf5
  v5 := Try.zeroValue5
  t9 := Try.underlying9
  a9 := Try.isAgg9
  z9 := Try.sizeOf9
  v9 := Try.zeroValue9
  t28 := Try.underlying27
  a28 := Try.isAgg27
  z28 := Try.sizeOf27
  v28 := Try.zeroValue27
  t46 := Try.underlying114
  a46 := Try.isAgg114
  z46 := Try.sizeOf114
  v46 := Try.zeroValue114
  t51 := Try.underlying60
  a51 := Try.isAgg60
  z51 := Try.sizeOf60
  v51 := Try.zeroValue60
  t53 := Try.underlying65
  a53 := Try.isAgg65
  z53 := Try.sizeOf65
  v53 := Try.zeroValue65
  t131 := Try.underlying123
  a131 := Try.isAgg123
  z131 := Try.sizeOf123
  v131 := Try.zeroValue123
  t182 := Try.underlying117
  a182 := Try.isAgg117
  z182 := Try.sizeOf117
  v182 := Try.zeroValue117
  t183 := Try.underlying118
  a183 := Try.isAgg118
  z183 := Try.sizeOf118
  v183 := Try.zeroValue118
  t218 := Try.underlying127
  a218 := Try.isAgg127
  z218 := Try.sizeOf127
  v218 := Try.zeroValue127
  t222 := Try.underlying131
  a222 := Try.isAgg131
  z222 := Try.sizeOf131
  v222 := Try.zeroValue131
  t228 := Try.underlying133
  a228 := Try.isAgg133
  z228 := Try.sizeOf133
  v228 := Try.zeroValue133
  t229 := Try.underlying134
  a229 := Try.isAgg134
  z229 := Try.sizeOf134
  v229 := Try.zeroValue134

/-- slices.Sort at a row of one's own. -/
theorem sort67 (blk cap : Nat) (zs : List Int) (w : World) (hr : RowC w blk 3 cap zs) (hn : 0 < zs.length) (hsz : zs.length < 1000000) :
    Calls Try.prog 67 #[.slice (some ⟨blk, 0, none⟩) zs.length cap] w fun e w' => e = .returned (.tuple #[]) ∧ RowC w' blk 3 cap (zs.mergeSort fun x y => decide (x ≤ y)) ∧ w.grownBy w' (some blk) := by
  have hlt := hr.lt
  have ho := hr.own (base := blk) (Nat.le_refl _)
  obtain ⟨h1, ⟨h2, h3⟩ | ⟨g, cap', cur, hv, hg, hk, hle, hcm, hs, ht⟩⟩ := ho
  · omega
  · injection hv with hv1 hv2 hv3
    injection hv1 with hv1
    injection hv1 with hv1
    subst hv1 hv3
    have hml : (zs.mergeSort fun x y => decide (x ≤ y)).length = zs.length := List.length_mergeSort _
    refine (Any.slices_Sort_int lays189 blk 0 cap zs w (holds_of_blockI hk (by rw [Nat.mul_one] at ht; exact ht)) hlt (by omega)).mono ?_
    rintro e w' ⟨rfl, n, os, rfl⟩
    refine ⟨rfl, ?_, grownBy_sortedI _⟩
    have h := ownsRow_sortedI (base := blk) (n := n) (os := os) (ss := zs) hml (Nat.le_refl _) hk hr.le hcm hs
    obtain ⟨b', cap2, e, _, _, h4⟩ := RowC.of_own h hn
    injection e with e1 e2 e3
    injection e1 with e1
    injection e1 with e1
    subst e1 e3
    exact h4
end Go.Proofs.Ytfhmepdbbhcncaa.P
