/-
  No cell of these rows narrows 'for every input' (looked for: loops, veiled, ifaces, maps, wideKeys, modest, calm, conditions, laid).
  DERIVED. THE GIVEN ROWS OF THIS SEAT. 6 by the template 'for every input the law returns true; each argument reads behind the call as it read before'; 0 by the template 'total and deterministic' (their statements: YtoniopgegcngpaaTotals.lean).
  GIVEN WITH THE SEED: the statements are not yours to turn. If you find one false, say at which input.
  Laid BY PROGRAM, IN A SANDBOX (cutbox-rows.mjs): the forced cells as the released guide's own fill.sh prints them over the translation fe1151becde16d36… (all of the seat's roots in one cut). By AI agents, Wed Nov 11 2026. No macro, syntax, notation, axiom, sorry.
-/
import Derived.Test.YtoniopgegcngpaaChecked
import GoSem.Claim
import GoSem.ClaimJoined
import GoSem.ClaimMapViews
import Derived.JoinedTies
import Derived.KernelRfl
namespace Go.Proofs.Ytoniopgegcngpaa
/- THE CELL 'sum', in the pinned program and in every row, IS THE sha256 OF THE DUMP (.gsa) THAT YtoniopgegcngpaaProg.lean LOADS. Nothing in Lean hashes anything: it is a label: what it is worth is what the hold of that sum in a sandbox is worth. -/
noncomputable def Try.pinned : Pinned := { name := "ytoniopgegcngpaa", sum := "fe1151becde16d36d7f49feb7576a34f074b20bcf037422f43b823f0c4ac3d76", checked := Try.checked }
namespace Rows
def none {H : Type} : Left H := { results := [], args := [] }

/-- 'skiarealaw39.PondRights': WHATEVER THE INPUT: true; the input reads as it did. -/
def pondRightsSpec : ChangeSpec := { name := "pondRights", fn := fun _ => fun
  | [d] => { results := [.lit (.bool true)], args := [d] }
  | _ => none }
def pondRightsRow : OpenClaim := { program := "ytoniopgegcngpaa", sum := "fe1151becde16d36d7f49feb7576a34f074b20bcf037422f43b823f0c4ac3d76", func := "skiarea/skiarealaw39.PondRights", spec := "pondRights", unfollowed := true, recurses := true, named := ["math/bits.divideError", "math/bits.overflowError"], apart := false }
def PondRightsSaid : Prop := pondRightsRow.holds Try.pinned (OpenSpec.ofChange pondRightsSpec)

/-- ITS FALSE NEIGHBOUR: 'it returns false'. Refute it at one input. -/
def pondRightsWrong : ChangeSpec := { name := "pondRights", fn := fun _ => fun
  | [d] => { results := [.lit (.bool false)], args := [d] }
  | _ => none }
def PondRightsWrongFalsely : Prop := pondRightsRow.holds Try.pinned (OpenSpec.ofChange pondRightsWrong)

/-- 'skiarealaw39.PondTakes': WHATEVER THE INPUT: true; the input reads as it did. -/
def pondTakesSpec : ChangeSpec := { name := "pondTakes", fn := fun _ => fun
  | [d1, d2] => { results := [.lit (.bool true)], args := [d1, d2] }
  | _ => none }
def pondTakesRow : OpenClaim := { program := "ytoniopgegcngpaa", sum := "fe1151becde16d36d7f49feb7576a34f074b20bcf037422f43b823f0c4ac3d76", func := "skiarea/skiarealaw39.PondTakes", spec := "pondTakes", unfollowed := true, recurses := true, named := ["math/bits.divideError", "math/bits.overflowError"], apart := false }
def PondTakesSaid : Prop := pondTakesRow.holds Try.pinned (OpenSpec.ofChange pondTakesSpec)

/-- ITS FALSE NEIGHBOUR: 'it returns false'. Refute it at one input. -/
def pondTakesWrong : ChangeSpec := { name := "pondTakes", fn := fun _ => fun
  | [d1, d2] => { results := [.lit (.bool false)], args := [d1, d2] }
  | _ => none }
def PondTakesWrongFalsely : Prop := pondTakesRow.holds Try.pinned (OpenSpec.ofChange pondTakesWrong)

/-- 'skiarealaw39.PondFills': WHATEVER THE INPUT: true; the input reads as it did. -/
def pondFillsSpec : ChangeSpec := { name := "pondFills", fn := fun _ => fun
  | [d1, d2] => { results := [.lit (.bool true)], args := [d1, d2] }
  | _ => none }
def pondFillsRow : OpenClaim := { program := "ytoniopgegcngpaa", sum := "fe1151becde16d36d7f49feb7576a34f074b20bcf037422f43b823f0c4ac3d76", func := "skiarea/skiarealaw39.PondFills", spec := "pondFills", unfollowed := true, recurses := true, named := ["math/bits.divideError", "math/bits.overflowError"], apart := false }
def PondFillsSaid : Prop := pondFillsRow.holds Try.pinned (OpenSpec.ofChange pondFillsSpec)

/-- ITS FALSE NEIGHBOUR: 'it returns false'. Refute it at one input. -/
def pondFillsWrong : ChangeSpec := { name := "pondFills", fn := fun _ => fun
  | [d1, d2] => { results := [.lit (.bool false)], args := [d1, d2] }
  | _ => none }
def PondFillsWrongFalsely : Prop := pondFillsRow.holds Try.pinned (OpenSpec.ofChange pondFillsWrong)

/-- 'skiarealaw39.PondVolumes': WHATEVER THE INPUT: true; the input reads as it did. -/
def pondVolumesSpec : ChangeSpec := { name := "pondVolumes", fn := fun _ => fun
  | [d1, d2] => { results := [.lit (.bool true)], args := [d1, d2] }
  | _ => none }
def pondVolumesRow : OpenClaim := { program := "ytoniopgegcngpaa", sum := "fe1151becde16d36d7f49feb7576a34f074b20bcf037422f43b823f0c4ac3d76", func := "skiarea/skiarealaw39.PondVolumes", spec := "pondVolumes", unfollowed := true, recurses := true, named := ["math/bits.divideError", "math/bits.overflowError"], apart := false }
def PondVolumesSaid : Prop := pondVolumesRow.holds Try.pinned (OpenSpec.ofChange pondVolumesSpec)

/-- ITS FALSE NEIGHBOUR: 'it returns false'. Refute it at one input. -/
def pondVolumesWrong : ChangeSpec := { name := "pondVolumes", fn := fun _ => fun
  | [d1, d2] => { results := [.lit (.bool false)], args := [d1, d2] }
  | _ => none }
def PondVolumesWrongFalsely : Prop := pondVolumesRow.holds Try.pinned (OpenSpec.ofChange pondVolumesWrong)

/-- 'skiarealaw39.PondShares': WHATEVER THE INPUT: true; the input reads as it did. -/
def pondSharesSpec : ChangeSpec := { name := "pondShares", fn := fun _ => fun
  | [d1, d2] => { results := [.lit (.bool true)], args := [d1, d2] }
  | _ => none }
def pondSharesRow : OpenClaim := { program := "ytoniopgegcngpaa", sum := "fe1151becde16d36d7f49feb7576a34f074b20bcf037422f43b823f0c4ac3d76", func := "skiarea/skiarealaw39.PondShares", spec := "pondShares", unfollowed := true, recurses := true, named := ["math/bits.divideError", "math/bits.overflowError"], apart := false }
def PondSharesSaid : Prop := pondSharesRow.holds Try.pinned (OpenSpec.ofChange pondSharesSpec)

/-- ITS FALSE NEIGHBOUR: 'it returns false'. Refute it at one input. -/
def pondSharesWrong : ChangeSpec := { name := "pondShares", fn := fun _ => fun
  | [d1, d2] => { results := [.lit (.bool false)], args := [d1, d2] }
  | _ => none }
def PondSharesWrongFalsely : Prop := pondSharesRow.holds Try.pinned (OpenSpec.ofChange pondSharesWrong)

/-- 'skiarealaw39.PondInflow': WHATEVER THE INPUT: true; the input reads as it did. -/
def pondInflowSpec : ChangeSpec := { name := "pondInflow", fn := fun _ => fun
  | [d1, d2] => { results := [.lit (.bool true)], args := [d1, d2] }
  | _ => none }
def pondInflowRow : OpenClaim := { program := "ytoniopgegcngpaa", sum := "fe1151becde16d36d7f49feb7576a34f074b20bcf037422f43b823f0c4ac3d76", func := "skiarea/skiarealaw39.PondInflow", spec := "pondInflow", unfollowed := true, recurses := true, named := ["math/bits.divideError", "math/bits.overflowError"], apart := false }
def PondInflowSaid : Prop := pondInflowRow.holds Try.pinned (OpenSpec.ofChange pondInflowSpec)

/-- ITS FALSE NEIGHBOUR: 'it returns false'. Refute it at one input. -/
def pondInflowWrong : ChangeSpec := { name := "pondInflow", fn := fun _ => fun
  | [d1, d2] => { results := [.lit (.bool false)], args := [d1, d2] }
  | _ => none }
def PondInflowWrongFalsely : Prop := pondInflowRow.holds Try.pinned (OpenSpec.ofChange pondInflowWrong)

/- THE SECOND FORM. 'bulk': how many values and letters a reading holds, each counted each time it is reached (what is shared counts as often as it is met; a slice's spare places count too). A statement '..UptoSaid' is the law's where the arguments, and the package variables that the reading takes, are together of bulk at most 1048576: NARROWER than '..Said'. Prove '..Said' where nothing that the law and all that it calls make is longer than what came in: it says more and counts as full. Else prove '..UptoSaid'. A law counts once. -/
mutual
def uptoBulk {H : Type} : DataW H → Nat
  | .lit (.string bytes) => bytes.length + 1
  | .lit _ => 1
  | .nil => 1
  | .ptr d => uptoBulk d + 1
  | .slice elems spare => uptoBulkAll elems + uptoBulkAll spare + 1
  | .agg parts => uptoBulkAll parts + 1
  | .iface _ d => uptoBulk d + 1
  | .map entries => uptoBulkEntries entries + 1
  | .held _ => 1
def uptoBulkAll {H : Type} : List (DataW H) → Nat
  | [] => 0
  | d :: r => uptoBulk d + uptoBulkAll r
def uptoBulkEntries {H : Type} : List (Lit × DataW H) → Nat
  | [] => 0
  | x :: r => uptoBulkEntry x + uptoBulkEntries r
def uptoBulkEntry {H : Type} : Lit × DataW H → Nat
  | (.string bytes, d) => bytes.length + uptoBulk d + 1
  | (_, d) => uptoBulk d + 1
 end
def uptoSmall : (H : Type) → List (DataW H) → Bool := fun _ ds => decide (uptoBulkAll ds ≤ 1048576)
def OpenSpec.upto (s : _root_.Go.ChangeSpec) : _root_.Go.OpenSpec := { _root_.Go.OpenSpec.ofChange s with cond := some uptoSmall }

/-- 'skiarealaw39.PondRights', WHERE WHAT IT READS IS OF BULK AT MOST 1048576: true; the input reads as it did. -/
def pondRightsUptoRow : OpenClaim := { program := "ytoniopgegcngpaa", sum := "fe1151becde16d36d7f49feb7576a34f074b20bcf037422f43b823f0c4ac3d76", func := "skiarea/skiarealaw39.PondRights", spec := "pondRights", unfollowed := true, recurses := true, named := ["math/bits.divideError", "math/bits.overflowError"], apart := false, narrowed := true }
def PondRightsUptoSaid : Prop := pondRightsUptoRow.holds Try.pinned (OpenSpec.upto pondRightsSpec)

/-- 'skiarealaw39.PondTakes', WHERE WHAT IT READS IS OF BULK AT MOST 1048576: true; the input reads as it did. -/
def pondTakesUptoRow : OpenClaim := { program := "ytoniopgegcngpaa", sum := "fe1151becde16d36d7f49feb7576a34f074b20bcf037422f43b823f0c4ac3d76", func := "skiarea/skiarealaw39.PondTakes", spec := "pondTakes", unfollowed := true, recurses := true, named := ["math/bits.divideError", "math/bits.overflowError"], apart := false, narrowed := true }
def PondTakesUptoSaid : Prop := pondTakesUptoRow.holds Try.pinned (OpenSpec.upto pondTakesSpec)

/-- 'skiarealaw39.PondFills', WHERE WHAT IT READS IS OF BULK AT MOST 1048576: true; the input reads as it did. -/
def pondFillsUptoRow : OpenClaim := { program := "ytoniopgegcngpaa", sum := "fe1151becde16d36d7f49feb7576a34f074b20bcf037422f43b823f0c4ac3d76", func := "skiarea/skiarealaw39.PondFills", spec := "pondFills", unfollowed := true, recurses := true, named := ["math/bits.divideError", "math/bits.overflowError"], apart := false, narrowed := true }
def PondFillsUptoSaid : Prop := pondFillsUptoRow.holds Try.pinned (OpenSpec.upto pondFillsSpec)

/-- 'skiarealaw39.PondVolumes', WHERE WHAT IT READS IS OF BULK AT MOST 1048576: true; the input reads as it did. -/
def pondVolumesUptoRow : OpenClaim := { program := "ytoniopgegcngpaa", sum := "fe1151becde16d36d7f49feb7576a34f074b20bcf037422f43b823f0c4ac3d76", func := "skiarea/skiarealaw39.PondVolumes", spec := "pondVolumes", unfollowed := true, recurses := true, named := ["math/bits.divideError", "math/bits.overflowError"], apart := false, narrowed := true }
def PondVolumesUptoSaid : Prop := pondVolumesUptoRow.holds Try.pinned (OpenSpec.upto pondVolumesSpec)

/-- 'skiarealaw39.PondShares', WHERE WHAT IT READS IS OF BULK AT MOST 1048576: true; the input reads as it did. -/
def pondSharesUptoRow : OpenClaim := { program := "ytoniopgegcngpaa", sum := "fe1151becde16d36d7f49feb7576a34f074b20bcf037422f43b823f0c4ac3d76", func := "skiarea/skiarealaw39.PondShares", spec := "pondShares", unfollowed := true, recurses := true, named := ["math/bits.divideError", "math/bits.overflowError"], apart := false, narrowed := true }
def PondSharesUptoSaid : Prop := pondSharesUptoRow.holds Try.pinned (OpenSpec.upto pondSharesSpec)

/-- 'skiarealaw39.PondInflow', WHERE WHAT IT READS IS OF BULK AT MOST 1048576: true; the input reads as it did. -/
def pondInflowUptoRow : OpenClaim := { program := "ytoniopgegcngpaa", sum := "fe1151becde16d36d7f49feb7576a34f074b20bcf037422f43b823f0c4ac3d76", func := "skiarea/skiarealaw39.PondInflow", spec := "pondInflow", unfollowed := true, recurses := true, named := ["math/bits.divideError", "math/bits.overflowError"], apart := false, narrowed := true }
def PondInflowUptoSaid : Prop := pondInflowUptoRow.holds Try.pinned (OpenSpec.upto pondInflowSpec)

end Rows
end Go.Proofs.Ytoniopgegcngpaa
