/-
  No cell of these rows narrows 'for every input' (looked for: loops, veiled, ifaces, maps, wideKeys, modest, calm, conditions, laid).
  DERIVED. THE GIVEN ROWS OF THIS SEAT. 11 by the template 'for every input the law returns true; each argument reads behind the call as it read before'; 0 by the template 'total and deterministic' (their statements: YtfhmepdbbhcncaaTotals.lean).
  GIVEN WITH THE SEED: the statements are not yours to turn. If you find one false, say at which input.
  Laid BY PROGRAM, IN A SANDBOX (cutbox-rows.mjs): the forced cells as the released guide's own fill.sh prints them over the translation 4297d5ded8f95b9b… (all of the seat's roots in one cut). By AI agents, Wed Nov 11 2026. No macro, syntax, notation, axiom, sorry.
-/
import Derived.Test.YtfhmepdbbhcncaaChecked
import GoSem.Claim
import GoSem.ClaimJoined
import GoSem.ClaimMapViews
import Derived.JoinedTies
import Derived.KernelRfl
namespace Go.Proofs.Ytfhmepdbbhcncaa
/- THE CELL 'sum', in the pinned program and in every row, IS THE sha256 OF THE DUMP (.gsa) THAT YtfhmepdbbhcncaaProg.lean LOADS. Nothing in Lean hashes anything: it is a label: what it is worth is what the hold of that sum in a sandbox is worth. -/
noncomputable def Try.pinned : Pinned := { name := "ytfhmepdbbhcncaa", sum := "4297d5ded8f95b9b7f5872752a84e7f1dbcca64c3bb80024da5bbf8400b81a4d", checked := Try.checked }
namespace Rows
def none {H : Type} : Left H := { results := [], args := [] }

/-- 'forecourtlaw05.TaintYards': WHATEVER THE INPUT: true; the input reads as it did. -/
def taintYardsSpec : ChangeSpec := { name := "taintYards", fn := fun _ => fun
  | [d1, d2, d3, d4, d5, d6] => { results := [.lit (.bool true)], args := [d1, d2, d3, d4, d5, d6] }
  | _ => none }
def taintYardsRow : OpenClaim := { program := "ytfhmepdbbhcncaa", sum := "4297d5ded8f95b9b7f5872752a84e7f1dbcca64c3bb80024da5bbf8400b81a4d", func := "forecourt/forecourtlaw05.TaintYards", spec := "taintYards", unfollowed := true, recurses := true, plainKeys := false, apart := false }
def TaintYardsSaid : Prop := taintYardsRow.holds Try.pinned (OpenSpec.ofChange taintYardsSpec)

/-- ITS FALSE NEIGHBOUR: 'it returns false'. Refute it at one input. -/
def taintYardsWrong : ChangeSpec := { name := "taintYards", fn := fun _ => fun
  | [d1, d2, d3, d4, d5, d6] => { results := [.lit (.bool false)], args := [d1, d2, d3, d4, d5, d6] }
  | _ => none }
def TaintYardsWrongFalsely : Prop := taintYardsRow.holds Try.pinned (OpenSpec.ofChange taintYardsWrong)

/-- 'forecourtlaw05.TaintArrivals': WHATEVER THE INPUT: true; the input reads as it did. -/
def taintArrivalsSpec : ChangeSpec := { name := "taintArrivals", fn := fun _ => fun
  | [d1, d2] => { results := [.lit (.bool true)], args := [d1, d2] }
  | _ => none }
def taintArrivalsRow : OpenClaim := { program := "ytfhmepdbbhcncaa", sum := "4297d5ded8f95b9b7f5872752a84e7f1dbcca64c3bb80024da5bbf8400b81a4d", func := "forecourt/forecourtlaw05.TaintArrivals", spec := "taintArrivals", unfollowed := true, recurses := true, plainKeys := false, apart := false }
def TaintArrivalsSaid : Prop := taintArrivalsRow.holds Try.pinned (OpenSpec.ofChange taintArrivalsSpec)

/-- ITS FALSE NEIGHBOUR: 'it returns false'. Refute it at one input. -/
def taintArrivalsWrong : ChangeSpec := { name := "taintArrivals", fn := fun _ => fun
  | [d1, d2] => { results := [.lit (.bool false)], args := [d1, d2] }
  | _ => none }
def TaintArrivalsWrongFalsely : Prop := taintArrivalsRow.holds Try.pinned (OpenSpec.ofChange taintArrivalsWrong)

/-- 'forecourtlaw05.TaintTrails': WHATEVER THE INPUT: true; the input reads as it did. -/
def taintTrailsSpec : ChangeSpec := { name := "taintTrails", fn := fun _ => fun
  | [d1, d2, d3] => { results := [.lit (.bool true)], args := [d1, d2, d3] }
  | _ => none }
def taintTrailsRow : OpenClaim := { program := "ytfhmepdbbhcncaa", sum := "4297d5ded8f95b9b7f5872752a84e7f1dbcca64c3bb80024da5bbf8400b81a4d", func := "forecourt/forecourtlaw05.TaintTrails", spec := "taintTrails", unfollowed := true, recurses := true, plainKeys := false, apart := false }
def TaintTrailsSaid : Prop := taintTrailsRow.holds Try.pinned (OpenSpec.ofChange taintTrailsSpec)

/-- ITS FALSE NEIGHBOUR: 'it returns false'. Refute it at one input. -/
def taintTrailsWrong : ChangeSpec := { name := "taintTrails", fn := fun _ => fun
  | [d1, d2, d3] => { results := [.lit (.bool false)], args := [d1, d2, d3] }
  | _ => none }
def TaintTrailsWrongFalsely : Prop := taintTrailsRow.holds Try.pinned (OpenSpec.ofChange taintTrailsWrong)

/-- 'forecourtlaw05.TaintCauses': WHATEVER THE INPUT: true; the input reads as it did. -/
def taintCausesSpec : ChangeSpec := { name := "taintCauses", fn := fun _ => fun
  | [d1, d2] => { results := [.lit (.bool true)], args := [d1, d2] }
  | _ => none }
def taintCausesRow : OpenClaim := { program := "ytfhmepdbbhcncaa", sum := "4297d5ded8f95b9b7f5872752a84e7f1dbcca64c3bb80024da5bbf8400b81a4d", func := "forecourt/forecourtlaw05.TaintCauses", spec := "taintCauses", unfollowed := true, recurses := true, plainKeys := false, apart := false }
def TaintCausesSaid : Prop := taintCausesRow.holds Try.pinned (OpenSpec.ofChange taintCausesSpec)

/-- ITS FALSE NEIGHBOUR: 'it returns false'. Refute it at one input. -/
def taintCausesWrong : ChangeSpec := { name := "taintCauses", fn := fun _ => fun
  | [d1, d2] => { results := [.lit (.bool false)], args := [d1, d2] }
  | _ => none }
def TaintCausesWrongFalsely : Prop := taintCausesRow.holds Try.pinned (OpenSpec.ofChange taintCausesWrong)

/-- 'forecourtlaw05.TaintProved': WHATEVER THE INPUT: true; the input reads as it did. -/
def taintProvedSpec : ChangeSpec := { name := "taintProved", fn := fun _ => fun
  | [d1, d2, d3, d4, d5] => { results := [.lit (.bool true)], args := [d1, d2, d3, d4, d5] }
  | _ => none }
def taintProvedRow : OpenClaim := { program := "ytfhmepdbbhcncaa", sum := "4297d5ded8f95b9b7f5872752a84e7f1dbcca64c3bb80024da5bbf8400b81a4d", func := "forecourt/forecourtlaw05.TaintProved", spec := "taintProved", unfollowed := true, recurses := true, plainKeys := false, apart := false }
def TaintProvedSaid : Prop := taintProvedRow.holds Try.pinned (OpenSpec.ofChange taintProvedSpec)

/-- ITS FALSE NEIGHBOUR: 'it returns false'. Refute it at one input. -/
def taintProvedWrong : ChangeSpec := { name := "taintProved", fn := fun _ => fun
  | [d1, d2, d3, d4, d5] => { results := [.lit (.bool false)], args := [d1, d2, d3, d4, d5] }
  | _ => none }
def TaintProvedWrongFalsely : Prop := taintProvedRow.holds Try.pinned (OpenSpec.ofChange taintProvedWrong)

/-- 'forecourtlaw05.TaintSure': WHATEVER THE INPUT: true; the input reads as it did. -/
def taintSureSpec : ChangeSpec := { name := "taintSure", fn := fun _ => fun
  | [d1, d2, d3, d4, d5] => { results := [.lit (.bool true)], args := [d1, d2, d3, d4, d5] }
  | _ => none }
def taintSureRow : OpenClaim := { program := "ytfhmepdbbhcncaa", sum := "4297d5ded8f95b9b7f5872752a84e7f1dbcca64c3bb80024da5bbf8400b81a4d", func := "forecourt/forecourtlaw05.TaintSure", spec := "taintSure", unfollowed := true, recurses := true, plainKeys := false, apart := false }
def TaintSureSaid : Prop := taintSureRow.holds Try.pinned (OpenSpec.ofChange taintSureSpec)

/-- ITS FALSE NEIGHBOUR: 'it returns false'. Refute it at one input. -/
def taintSureWrong : ChangeSpec := { name := "taintSure", fn := fun _ => fun
  | [d1, d2, d3, d4, d5] => { results := [.lit (.bool false)], args := [d1, d2, d3, d4, d5] }
  | _ => none }
def TaintSureWrongFalsely : Prop := taintSureRow.holds Try.pinned (OpenSpec.ofChange taintSureWrong)

/-- 'forecourtlaw05.TaintPassed': WHATEVER THE INPUT: true; the input reads as it did. -/
def taintPassedSpec : ChangeSpec := { name := "taintPassed", fn := fun _ => fun
  | [d1, d2, d3, d4, d5] => { results := [.lit (.bool true)], args := [d1, d2, d3, d4, d5] }
  | _ => none }
def taintPassedRow : OpenClaim := { program := "ytfhmepdbbhcncaa", sum := "4297d5ded8f95b9b7f5872752a84e7f1dbcca64c3bb80024da5bbf8400b81a4d", func := "forecourt/forecourtlaw05.TaintPassed", spec := "taintPassed", unfollowed := true, recurses := true, plainKeys := false, apart := false }
def TaintPassedSaid : Prop := taintPassedRow.holds Try.pinned (OpenSpec.ofChange taintPassedSpec)

/-- ITS FALSE NEIGHBOUR: 'it returns false'. Refute it at one input. -/
def taintPassedWrong : ChangeSpec := { name := "taintPassed", fn := fun _ => fun
  | [d1, d2, d3, d4, d5] => { results := [.lit (.bool false)], args := [d1, d2, d3, d4, d5] }
  | _ => none }
def TaintPassedWrongFalsely : Prop := taintPassedRow.holds Try.pinned (OpenSpec.ofChange taintPassedWrong)

/-- 'forecourtlaw05.TaintCaused': WHATEVER THE INPUT: true; the input reads as it did. -/
def taintCausedSpec : ChangeSpec := { name := "taintCaused", fn := fun _ => fun
  | [d1, d2, d3, d4] => { results := [.lit (.bool true)], args := [d1, d2, d3, d4] }
  | _ => none }
def taintCausedRow : OpenClaim := { program := "ytfhmepdbbhcncaa", sum := "4297d5ded8f95b9b7f5872752a84e7f1dbcca64c3bb80024da5bbf8400b81a4d", func := "forecourt/forecourtlaw05.TaintCaused", spec := "taintCaused", unfollowed := true, recurses := true, plainKeys := false, apart := false }
def TaintCausedSaid : Prop := taintCausedRow.holds Try.pinned (OpenSpec.ofChange taintCausedSpec)

/-- ITS FALSE NEIGHBOUR: 'it returns false'. Refute it at one input. -/
def taintCausedWrong : ChangeSpec := { name := "taintCaused", fn := fun _ => fun
  | [d1, d2, d3, d4] => { results := [.lit (.bool false)], args := [d1, d2, d3, d4] }
  | _ => none }
def TaintCausedWrongFalsely : Prop := taintCausedRow.holds Try.pinned (OpenSpec.ofChange taintCausedWrong)

/-- 'forecourtlaw05.TaintLater': WHATEVER THE INPUT: true; the input reads as it did. -/
def taintLaterSpec : ChangeSpec := { name := "taintLater", fn := fun _ => fun
  | [d1, d2, d3, d4, d5] => { results := [.lit (.bool true)], args := [d1, d2, d3, d4, d5] }
  | _ => none }
def taintLaterRow : OpenClaim := { program := "ytfhmepdbbhcncaa", sum := "4297d5ded8f95b9b7f5872752a84e7f1dbcca64c3bb80024da5bbf8400b81a4d", func := "forecourt/forecourtlaw05.TaintLater", spec := "taintLater", unfollowed := true, recurses := true, plainKeys := false, apart := false }
def TaintLaterSaid : Prop := taintLaterRow.holds Try.pinned (OpenSpec.ofChange taintLaterSpec)

/-- ITS FALSE NEIGHBOUR: 'it returns false'. Refute it at one input. -/
def taintLaterWrong : ChangeSpec := { name := "taintLater", fn := fun _ => fun
  | [d1, d2, d3, d4, d5] => { results := [.lit (.bool false)], args := [d1, d2, d3, d4, d5] }
  | _ => none }
def TaintLaterWrongFalsely : Prop := taintLaterRow.holds Try.pinned (OpenSpec.ofChange taintLaterWrong)

/-- 'forecourtlaw05.TaintTurned': WHATEVER THE INPUT: true; the input reads as it did. -/
def taintTurnedSpec : ChangeSpec := { name := "taintTurned", fn := fun _ => fun
  | [d1, d2, d3, d4, d5] => { results := [.lit (.bool true)], args := [d1, d2, d3, d4, d5] }
  | _ => none }
def taintTurnedRow : OpenClaim := { program := "ytfhmepdbbhcncaa", sum := "4297d5ded8f95b9b7f5872752a84e7f1dbcca64c3bb80024da5bbf8400b81a4d", func := "forecourt/forecourtlaw05.TaintTurned", spec := "taintTurned", unfollowed := true, recurses := true, plainKeys := false, apart := false }
def TaintTurnedSaid : Prop := taintTurnedRow.holds Try.pinned (OpenSpec.ofChange taintTurnedSpec)

/-- ITS FALSE NEIGHBOUR: 'it returns false'. Refute it at one input. -/
def taintTurnedWrong : ChangeSpec := { name := "taintTurned", fn := fun _ => fun
  | [d1, d2, d3, d4, d5] => { results := [.lit (.bool false)], args := [d1, d2, d3, d4, d5] }
  | _ => none }
def TaintTurnedWrongFalsely : Prop := taintTurnedRow.holds Try.pinned (OpenSpec.ofChange taintTurnedWrong)

/-- 'forecourtlaw05.TaintKnown': WHATEVER THE INPUT: true; the input reads as it did. -/
def taintKnownSpec : ChangeSpec := { name := "taintKnown", fn := fun _ => fun
  | [] => { results := [.lit (.bool true)], args := [] }
  | _ => none }
def taintKnownRow : OpenClaim := { program := "ytfhmepdbbhcncaa", sum := "4297d5ded8f95b9b7f5872752a84e7f1dbcca64c3bb80024da5bbf8400b81a4d", func := "forecourt/forecourtlaw05.TaintKnown", spec := "taintKnown", unfollowed := true, recurses := true, plainKeys := false, apart := false }
def TaintKnownSaid : Prop := taintKnownRow.holds Try.pinned (OpenSpec.ofChange taintKnownSpec)

/-- ITS FALSE NEIGHBOUR: 'it returns false'. Refute it at one input. -/
def taintKnownWrong : ChangeSpec := { name := "taintKnown", fn := fun _ => fun
  | [] => { results := [.lit (.bool false)], args := [] }
  | _ => none }
def TaintKnownWrongFalsely : Prop := taintKnownRow.holds Try.pinned (OpenSpec.ofChange taintKnownWrong)

/- THE SECOND FORM. 'bulk': how many values and letters a reading holds, each counted each time it is reached (what is shared counts as often as it is met; a slice's spare places count too). A statement '..UptoSaid' is the law's where the arguments, and the package variables that the reading takes, are together of bulk at most 1048576: NARROWER than '..Said'. Prove '..Said' where nothing that the law and all that it calls make is longer than what came in: it says more and counts as full. Else prove '..UptoSaid'. A law counts once. -/
mutual
def uptoBulk {H : Type} : DataW H → Nat
  | .lit (.string bytes) => bytes.length + 1
  | .lit _ => 1
  | .nil => 1
  | .ptr d => uptoBulk d + 1
  | .slice elems spare => uptoBulkAll elems + uptoBulkAll spare + 1
  | .agg parts => uptoBulkAll parts + 1
  | .iface _ d => uptoBulk d + 1
  | .map entries => uptoBulkEntries entries + 1
  | .held _ => 1
def uptoBulkAll {H : Type} : List (DataW H) → Nat
  | [] => 0
  | d :: r => uptoBulk d + uptoBulkAll r
def uptoBulkEntries {H : Type} : List (Lit × DataW H) → Nat
  | [] => 0
  | x :: r => uptoBulkEntry x + uptoBulkEntries r
def uptoBulkEntry {H : Type} : Lit × DataW H → Nat
  | (.string bytes, d) => bytes.length + uptoBulk d + 1
  | (_, d) => uptoBulk d + 1
 end
def uptoSmall : (H : Type) → List (DataW H) → Bool := fun _ ds => decide (uptoBulkAll ds ≤ 1048576)
def OpenSpec.upto (s : _root_.Go.ChangeSpec) : _root_.Go.OpenSpec := { _root_.Go.OpenSpec.ofChange s with cond := some uptoSmall }

/-- 'forecourtlaw05.TaintYards', WHERE WHAT IT READS IS OF BULK AT MOST 1048576: true; the input reads as it did. -/
def taintYardsUptoRow : OpenClaim := { program := "ytfhmepdbbhcncaa", sum := "4297d5ded8f95b9b7f5872752a84e7f1dbcca64c3bb80024da5bbf8400b81a4d", func := "forecourt/forecourtlaw05.TaintYards", spec := "taintYards", unfollowed := true, recurses := true, plainKeys := false, apart := false, narrowed := true }
def TaintYardsUptoSaid : Prop := taintYardsUptoRow.holds Try.pinned (OpenSpec.upto taintYardsSpec)

/-- 'forecourtlaw05.TaintArrivals', WHERE WHAT IT READS IS OF BULK AT MOST 1048576: true; the input reads as it did. -/
def taintArrivalsUptoRow : OpenClaim := { program := "ytfhmepdbbhcncaa", sum := "4297d5ded8f95b9b7f5872752a84e7f1dbcca64c3bb80024da5bbf8400b81a4d", func := "forecourt/forecourtlaw05.TaintArrivals", spec := "taintArrivals", unfollowed := true, recurses := true, plainKeys := false, apart := false, narrowed := true }
def TaintArrivalsUptoSaid : Prop := taintArrivalsUptoRow.holds Try.pinned (OpenSpec.upto taintArrivalsSpec)

/-- 'forecourtlaw05.TaintTrails', WHERE WHAT IT READS IS OF BULK AT MOST 1048576: true; the input reads as it did. -/
def taintTrailsUptoRow : OpenClaim := { program := "ytfhmepdbbhcncaa", sum := "4297d5ded8f95b9b7f5872752a84e7f1dbcca64c3bb80024da5bbf8400b81a4d", func := "forecourt/forecourtlaw05.TaintTrails", spec := "taintTrails", unfollowed := true, recurses := true, plainKeys := false, apart := false, narrowed := true }
def TaintTrailsUptoSaid : Prop := taintTrailsUptoRow.holds Try.pinned (OpenSpec.upto taintTrailsSpec)

/-- 'forecourtlaw05.TaintCauses', WHERE WHAT IT READS IS OF BULK AT MOST 1048576: true; the input reads as it did. -/
def taintCausesUptoRow : OpenClaim := { program := "ytfhmepdbbhcncaa", sum := "4297d5ded8f95b9b7f5872752a84e7f1dbcca64c3bb80024da5bbf8400b81a4d", func := "forecourt/forecourtlaw05.TaintCauses", spec := "taintCauses", unfollowed := true, recurses := true, plainKeys := false, apart := false, narrowed := true }
def TaintCausesUptoSaid : Prop := taintCausesUptoRow.holds Try.pinned (OpenSpec.upto taintCausesSpec)

/-- 'forecourtlaw05.TaintProved', WHERE WHAT IT READS IS OF BULK AT MOST 1048576: true; the input reads as it did. -/
def taintProvedUptoRow : OpenClaim := { program := "ytfhmepdbbhcncaa", sum := "4297d5ded8f95b9b7f5872752a84e7f1dbcca64c3bb80024da5bbf8400b81a4d", func := "forecourt/forecourtlaw05.TaintProved", spec := "taintProved", unfollowed := true, recurses := true, plainKeys := false, apart := false, narrowed := true }
def TaintProvedUptoSaid : Prop := taintProvedUptoRow.holds Try.pinned (OpenSpec.upto taintProvedSpec)

/-- 'forecourtlaw05.TaintSure', WHERE WHAT IT READS IS OF BULK AT MOST 1048576: true; the input reads as it did. -/
def taintSureUptoRow : OpenClaim := { program := "ytfhmepdbbhcncaa", sum := "4297d5ded8f95b9b7f5872752a84e7f1dbcca64c3bb80024da5bbf8400b81a4d", func := "forecourt/forecourtlaw05.TaintSure", spec := "taintSure", unfollowed := true, recurses := true, plainKeys := false, apart := false, narrowed := true }
def TaintSureUptoSaid : Prop := taintSureUptoRow.holds Try.pinned (OpenSpec.upto taintSureSpec)

/-- 'forecourtlaw05.TaintPassed', WHERE WHAT IT READS IS OF BULK AT MOST 1048576: true; the input reads as it did. -/
def taintPassedUptoRow : OpenClaim := { program := "ytfhmepdbbhcncaa", sum := "4297d5ded8f95b9b7f5872752a84e7f1dbcca64c3bb80024da5bbf8400b81a4d", func := "forecourt/forecourtlaw05.TaintPassed", spec := "taintPassed", unfollowed := true, recurses := true, plainKeys := false, apart := false, narrowed := true }
def TaintPassedUptoSaid : Prop := taintPassedUptoRow.holds Try.pinned (OpenSpec.upto taintPassedSpec)

/-- 'forecourtlaw05.TaintCaused', WHERE WHAT IT READS IS OF BULK AT MOST 1048576: true; the input reads as it did. -/
def taintCausedUptoRow : OpenClaim := { program := "ytfhmepdbbhcncaa", sum := "4297d5ded8f95b9b7f5872752a84e7f1dbcca64c3bb80024da5bbf8400b81a4d", func := "forecourt/forecourtlaw05.TaintCaused", spec := "taintCaused", unfollowed := true, recurses := true, plainKeys := false, apart := false, narrowed := true }
def TaintCausedUptoSaid : Prop := taintCausedUptoRow.holds Try.pinned (OpenSpec.upto taintCausedSpec)

/-- 'forecourtlaw05.TaintLater', WHERE WHAT IT READS IS OF BULK AT MOST 1048576: true; the input reads as it did. -/
def taintLaterUptoRow : OpenClaim := { program := "ytfhmepdbbhcncaa", sum := "4297d5ded8f95b9b7f5872752a84e7f1dbcca64c3bb80024da5bbf8400b81a4d", func := "forecourt/forecourtlaw05.TaintLater", spec := "taintLater", unfollowed := true, recurses := true, plainKeys := false, apart := false, narrowed := true }
def TaintLaterUptoSaid : Prop := taintLaterUptoRow.holds Try.pinned (OpenSpec.upto taintLaterSpec)

/-- 'forecourtlaw05.TaintTurned', WHERE WHAT IT READS IS OF BULK AT MOST 1048576: true; the input reads as it did. -/
def taintTurnedUptoRow : OpenClaim := { program := "ytfhmepdbbhcncaa", sum := "4297d5ded8f95b9b7f5872752a84e7f1dbcca64c3bb80024da5bbf8400b81a4d", func := "forecourt/forecourtlaw05.TaintTurned", spec := "taintTurned", unfollowed := true, recurses := true, plainKeys := false, apart := false, narrowed := true }
def TaintTurnedUptoSaid : Prop := taintTurnedUptoRow.holds Try.pinned (OpenSpec.upto taintTurnedSpec)

/-- 'forecourtlaw05.TaintKnown', WHERE WHAT IT READS IS OF BULK AT MOST 1048576: true; the input reads as it did. -/
def taintKnownUptoRow : OpenClaim := { program := "ytfhmepdbbhcncaa", sum := "4297d5ded8f95b9b7f5872752a84e7f1dbcca64c3bb80024da5bbf8400b81a4d", func := "forecourt/forecourtlaw05.TaintKnown", spec := "taintKnown", unfollowed := true, recurses := true, plainKeys := false, apart := false, narrowed := true }
def TaintKnownUptoSaid : Prop := taintKnownUptoRow.holds Try.pinned (OpenSpec.upto taintKnownSpec)

end Rows
end Go.Proofs.Ytfhmepdbbhcncaa
