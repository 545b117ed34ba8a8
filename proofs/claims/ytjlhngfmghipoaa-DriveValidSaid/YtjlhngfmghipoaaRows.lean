/-
  No cell of these rows narrows 'for every input' (looked for: loops, veiled, ifaces, maps, wideKeys, modest, calm, conditions, laid).
  DERIVED. THE GIVEN ROWS OF THIS SEAT. 7 by the template 'for every input the law returns true; each argument reads behind the call as it read before'; 0 by the template 'total and deterministic' (their statements: YtjlhngfmghipoaaTotals.lean).
  GIVEN WITH THE SEED: the statements are not yours to turn. If you find one false, say at which input.
  Laid BY PROGRAM, IN A SANDBOX (cutbox-rows.mjs): the forced cells as the released guide's own fill.sh prints them over the translation 32729befce598cde… (all of the seat's roots in one cut). By AI agents, Wed Nov 11 2026. No macro, syntax, notation, axiom, sorry.
-/
import Derived.Test.YtjlhngfmghipoaaChecked
import GoSem.Claim
import GoSem.ClaimJoined
import GoSem.ClaimMapViews
import Derived.JoinedTies
import Derived.KernelRfl
namespace Go.Proofs.Ytjlhngfmghipoaa
/- THE CELL 'sum', in the pinned program and in every row, IS THE sha256 OF THE DUMP (.gsa) THAT YtjlhngfmghipoaaProg.lean LOADS. Nothing in Lean hashes anything: it is a label: what it is worth is what the hold of that sum in a sandbox is worth. -/
noncomputable def Try.pinned : Pinned := { name := "ytjlhngfmghipoaa", sum := "32729befce598cde8f0c9991d33231bbd53123beaae5cbbd0e327736273d1034", checked := Try.checked }
namespace Rows
def none {H : Type} : Left H := { results := [], args := [] }

/-- 'skiarealaw14.DriveRights': WHATEVER THE INPUT: true; the input reads as it did. -/
def driveRightsSpec : ChangeSpec := { name := "driveRights", fn := fun _ => fun
  | [d1, d2] => { results := [.lit (.bool true)], args := [d1, d2] }
  | _ => none }
def driveRightsRow : OpenClaim := { program := "ytjlhngfmghipoaa", sum := "32729befce598cde8f0c9991d33231bbd53123beaae5cbbd0e327736273d1034", func := "skiarea/skiarealaw14.DriveRights", spec := "driveRights", apart := false }
def DriveRightsSaid : Prop := driveRightsRow.holds Try.pinned (OpenSpec.ofChange driveRightsSpec)

/-- ITS FALSE NEIGHBOUR: 'it returns false'. Refute it at one input. -/
def driveRightsWrong : ChangeSpec := { name := "driveRights", fn := fun _ => fun
  | [d1, d2] => { results := [.lit (.bool false)], args := [d1, d2] }
  | _ => none }
def DriveRightsWrongFalsely : Prop := driveRightsRow.holds Try.pinned (OpenSpec.ofChange driveRightsWrong)

/-- 'skiarealaw14.DriveStarts': WHATEVER THE INPUT: true; the input reads as it did. -/
def driveStartsSpec : ChangeSpec := { name := "driveStarts", fn := fun _ => fun
  | [d1, d2, d3] => { results := [.lit (.bool true)], args := [d1, d2, d3] }
  | _ => none }
def driveStartsRow : OpenClaim := { program := "ytjlhngfmghipoaa", sum := "32729befce598cde8f0c9991d33231bbd53123beaae5cbbd0e327736273d1034", func := "skiarea/skiarealaw14.DriveStarts", spec := "driveStarts", apart := false }
def DriveStartsSaid : Prop := driveStartsRow.holds Try.pinned (OpenSpec.ofChange driveStartsSpec)

/-- ITS FALSE NEIGHBOUR: 'it returns false'. Refute it at one input. -/
def driveStartsWrong : ChangeSpec := { name := "driveStarts", fn := fun _ => fun
  | [d1, d2, d3] => { results := [.lit (.bool false)], args := [d1, d2, d3] }
  | _ => none }
def DriveStartsWrongFalsely : Prop := driveStartsRow.holds Try.pinned (OpenSpec.ofChange driveStartsWrong)

/-- 'skiarealaw14.DriveSteps': WHATEVER THE INPUT: true; the input reads as it did. -/
def driveStepsSpec : ChangeSpec := { name := "driveSteps", fn := fun _ => fun
  | [d1, d2, d3] => { results := [.lit (.bool true)], args := [d1, d2, d3] }
  | _ => none }
def driveStepsRow : OpenClaim := { program := "ytjlhngfmghipoaa", sum := "32729befce598cde8f0c9991d33231bbd53123beaae5cbbd0e327736273d1034", func := "skiarea/skiarealaw14.DriveSteps", spec := "driveSteps", apart := false }
def DriveStepsSaid : Prop := driveStepsRow.holds Try.pinned (OpenSpec.ofChange driveStepsSpec)

/-- ITS FALSE NEIGHBOUR: 'it returns false'. Refute it at one input. -/
def driveStepsWrong : ChangeSpec := { name := "driveSteps", fn := fun _ => fun
  | [d1, d2, d3] => { results := [.lit (.bool false)], args := [d1, d2, d3] }
  | _ => none }
def DriveStepsWrongFalsely : Prop := driveStepsRow.holds Try.pinned (OpenSpec.ofChange driveStepsWrong)

/-- 'skiarealaw14.DriveStops': WHATEVER THE INPUT: true; the input reads as it did. -/
def driveStopsSpec : ChangeSpec := { name := "driveStops", fn := fun _ => fun
  | [d1, d2, d3] => { results := [.lit (.bool true)], args := [d1, d2, d3] }
  | _ => none }
def driveStopsRow : OpenClaim := { program := "ytjlhngfmghipoaa", sum := "32729befce598cde8f0c9991d33231bbd53123beaae5cbbd0e327736273d1034", func := "skiarea/skiarealaw14.DriveStops", spec := "driveStops", apart := false }
def DriveStopsSaid : Prop := driveStopsRow.holds Try.pinned (OpenSpec.ofChange driveStopsSpec)

/-- ITS FALSE NEIGHBOUR: 'it returns false'. Refute it at one input. -/
def driveStopsWrong : ChangeSpec := { name := "driveStops", fn := fun _ => fun
  | [d1, d2, d3] => { results := [.lit (.bool false)], args := [d1, d2, d3] }
  | _ => none }
def DriveStopsWrongFalsely : Prop := driveStopsRow.holds Try.pinned (OpenSpec.ofChange driveStopsWrong)

/-- 'skiarealaw14.DriveTargets': WHATEVER THE INPUT: true; the input reads as it did. -/
def driveTargetsSpec : ChangeSpec := { name := "driveTargets", fn := fun _ => fun
  | [d1, d2] => { results := [.lit (.bool true)], args := [d1, d2] }
  | _ => none }
def driveTargetsRow : OpenClaim := { program := "ytjlhngfmghipoaa", sum := "32729befce598cde8f0c9991d33231bbd53123beaae5cbbd0e327736273d1034", func := "skiarea/skiarealaw14.DriveTargets", spec := "driveTargets", apart := false }
def DriveTargetsSaid : Prop := driveTargetsRow.holds Try.pinned (OpenSpec.ofChange driveTargetsSpec)

/-- ITS FALSE NEIGHBOUR: 'it returns false'. Refute it at one input. -/
def driveTargetsWrong : ChangeSpec := { name := "driveTargets", fn := fun _ => fun
  | [d1, d2] => { results := [.lit (.bool false)], args := [d1, d2] }
  | _ => none }
def DriveTargetsWrongFalsely : Prop := driveTargetsRow.holds Try.pinned (OpenSpec.ofChange driveTargetsWrong)

/-- 'skiarealaw14.DriveAdds': WHATEVER THE INPUT: true; the input reads as it did. -/
def driveAddsSpec : ChangeSpec := { name := "driveAdds", fn := fun _ => fun
  | [d1, d2, d3] => { results := [.lit (.bool true)], args := [d1, d2, d3] }
  | _ => none }
def driveAddsRow : OpenClaim := { program := "ytjlhngfmghipoaa", sum := "32729befce598cde8f0c9991d33231bbd53123beaae5cbbd0e327736273d1034", func := "skiarea/skiarealaw14.DriveAdds", spec := "driveAdds", apart := false }
def DriveAddsSaid : Prop := driveAddsRow.holds Try.pinned (OpenSpec.ofChange driveAddsSpec)

/-- ITS FALSE NEIGHBOUR: 'it returns false'. Refute it at one input. -/
def driveAddsWrong : ChangeSpec := { name := "driveAdds", fn := fun _ => fun
  | [d1, d2, d3] => { results := [.lit (.bool false)], args := [d1, d2, d3] }
  | _ => none }
def DriveAddsWrongFalsely : Prop := driveAddsRow.holds Try.pinned (OpenSpec.ofChange driveAddsWrong)

/-- 'skiarealaw14.DriveValid': WHATEVER THE INPUT: true; the input reads as it did. -/
def driveValidSpec : ChangeSpec := { name := "driveValid", fn := fun _ => fun
  | [d1, d2, d3] => { results := [.lit (.bool true)], args := [d1, d2, d3] }
  | _ => none }
def driveValidRow : OpenClaim := { program := "ytjlhngfmghipoaa", sum := "32729befce598cde8f0c9991d33231bbd53123beaae5cbbd0e327736273d1034", func := "skiarea/skiarealaw14.DriveValid", spec := "driveValid", apart := false }
def DriveValidSaid : Prop := driveValidRow.holds Try.pinned (OpenSpec.ofChange driveValidSpec)

/-- ITS FALSE NEIGHBOUR: 'it returns false'. Refute it at one input. -/
def driveValidWrong : ChangeSpec := { name := "driveValid", fn := fun _ => fun
  | [d1, d2, d3] => { results := [.lit (.bool false)], args := [d1, d2, d3] }
  | _ => none }
def DriveValidWrongFalsely : Prop := driveValidRow.holds Try.pinned (OpenSpec.ofChange driveValidWrong)

/- THE SECOND FORM. 'bulk': how many values and letters a reading holds, each counted each time it is reached (what is shared counts as often as it is met; a slice's spare places count too). A statement '..UptoSaid' is the law's where the arguments, and the package variables that the reading takes, are together of bulk at most 1048576: NARROWER than '..Said'. Prove '..Said' where nothing that the law and all that it calls make is longer than what came in: it says more and counts as full. Else prove '..UptoSaid'. A law counts once. -/
mutual
def uptoBulk {H : Type} : DataW H → Nat
  | .lit (.string bytes) => bytes.length + 1
  | .lit _ => 1
  | .nil => 1
  | .ptr d => uptoBulk d + 1
  | .slice elems spare => uptoBulkAll elems + uptoBulkAll spare + 1
  | .agg parts => uptoBulkAll parts + 1
  | .iface _ d => uptoBulk d + 1
  | .map entries => uptoBulkEntries entries + 1
  | .held _ => 1
def uptoBulkAll {H : Type} : List (DataW H) → Nat
  | [] => 0
  | d :: r => uptoBulk d + uptoBulkAll r
def uptoBulkEntries {H : Type} : List (Lit × DataW H) → Nat
  | [] => 0
  | x :: r => uptoBulkEntry x + uptoBulkEntries r
def uptoBulkEntry {H : Type} : Lit × DataW H → Nat
  | (.string bytes, d) => bytes.length + uptoBulk d + 1
  | (_, d) => uptoBulk d + 1
 end
def uptoSmall : (H : Type) → List (DataW H) → Bool := fun _ ds => decide (uptoBulkAll ds ≤ 1048576)
def OpenSpec.upto (s : _root_.Go.ChangeSpec) : _root_.Go.OpenSpec := { _root_.Go.OpenSpec.ofChange s with cond := some uptoSmall }

/-- 'skiarealaw14.DriveRights', WHERE WHAT IT READS IS OF BULK AT MOST 1048576: true; the input reads as it did. -/
def driveRightsUptoRow : OpenClaim := { program := "ytjlhngfmghipoaa", sum := "32729befce598cde8f0c9991d33231bbd53123beaae5cbbd0e327736273d1034", func := "skiarea/skiarealaw14.DriveRights", spec := "driveRights", apart := false, narrowed := true }
def DriveRightsUptoSaid : Prop := driveRightsUptoRow.holds Try.pinned (OpenSpec.upto driveRightsSpec)

/-- 'skiarealaw14.DriveStarts', WHERE WHAT IT READS IS OF BULK AT MOST 1048576: true; the input reads as it did. -/
def driveStartsUptoRow : OpenClaim := { program := "ytjlhngfmghipoaa", sum := "32729befce598cde8f0c9991d33231bbd53123beaae5cbbd0e327736273d1034", func := "skiarea/skiarealaw14.DriveStarts", spec := "driveStarts", apart := false, narrowed := true }
def DriveStartsUptoSaid : Prop := driveStartsUptoRow.holds Try.pinned (OpenSpec.upto driveStartsSpec)

/-- 'skiarealaw14.DriveSteps', WHERE WHAT IT READS IS OF BULK AT MOST 1048576: true; the input reads as it did. -/
def driveStepsUptoRow : OpenClaim := { program := "ytjlhngfmghipoaa", sum := "32729befce598cde8f0c9991d33231bbd53123beaae5cbbd0e327736273d1034", func := "skiarea/skiarealaw14.DriveSteps", spec := "driveSteps", apart := false, narrowed := true }
def DriveStepsUptoSaid : Prop := driveStepsUptoRow.holds Try.pinned (OpenSpec.upto driveStepsSpec)

/-- 'skiarealaw14.DriveStops', WHERE WHAT IT READS IS OF BULK AT MOST 1048576: true; the input reads as it did. -/
def driveStopsUptoRow : OpenClaim := { program := "ytjlhngfmghipoaa", sum := "32729befce598cde8f0c9991d33231bbd53123beaae5cbbd0e327736273d1034", func := "skiarea/skiarealaw14.DriveStops", spec := "driveStops", apart := false, narrowed := true }
def DriveStopsUptoSaid : Prop := driveStopsUptoRow.holds Try.pinned (OpenSpec.upto driveStopsSpec)

/-- 'skiarealaw14.DriveTargets', WHERE WHAT IT READS IS OF BULK AT MOST 1048576: true; the input reads as it did. -/
def driveTargetsUptoRow : OpenClaim := { program := "ytjlhngfmghipoaa", sum := "32729befce598cde8f0c9991d33231bbd53123beaae5cbbd0e327736273d1034", func := "skiarea/skiarealaw14.DriveTargets", spec := "driveTargets", apart := false, narrowed := true }
def DriveTargetsUptoSaid : Prop := driveTargetsUptoRow.holds Try.pinned (OpenSpec.upto driveTargetsSpec)

/-- 'skiarealaw14.DriveAdds', WHERE WHAT IT READS IS OF BULK AT MOST 1048576: true; the input reads as it did. -/
def driveAddsUptoRow : OpenClaim := { program := "ytjlhngfmghipoaa", sum := "32729befce598cde8f0c9991d33231bbd53123beaae5cbbd0e327736273d1034", func := "skiarea/skiarealaw14.DriveAdds", spec := "driveAdds", apart := false, narrowed := true }
def DriveAddsUptoSaid : Prop := driveAddsUptoRow.holds Try.pinned (OpenSpec.upto driveAddsSpec)

/-- 'skiarealaw14.DriveValid', WHERE WHAT IT READS IS OF BULK AT MOST 1048576: true; the input reads as it did. -/
def driveValidUptoRow : OpenClaim := { program := "ytjlhngfmghipoaa", sum := "32729befce598cde8f0c9991d33231bbd53123beaae5cbbd0e327736273d1034", func := "skiarea/skiarealaw14.DriveValid", spec := "driveValid", apart := false, narrowed := true }
def DriveValidUptoSaid : Prop := driveValidUptoRow.holds Try.pinned (OpenSpec.upto driveValidSpec)

end Rows
end Go.Proofs.Ytjlhngfmghipoaa
