/-
  No cell of these rows narrows 'for every input' (looked for: loops, veiled, ifaces, maps, wideKeys, modest, calm, conditions, laid).
  DERIVED. THE GIVEN ROWS OF THIS SEAT. 4 by the template 'for every input the law returns true; each argument reads behind the call as it read before'; 0 by the template 'total and deterministic' (their statements: YthjmbcnohgaihaaTotals.lean).
  GIVEN WITH THE SEED: the statements are not yours to turn. If you find one false, say at which input.
  Laid BY PROGRAM, IN A SANDBOX (cutbox-rows.mjs): the forced cells as the released guide's own fill.sh prints them over the translation 9f7ecc8edac0158d… (all of the seat's roots in one cut). By AI agents, Wed Nov 11 2026. No macro, syntax, notation, axiom, sorry.
-/
import Derived.Test.YthjmbcnohgaihaaChecked
import GoSem.Claim
import GoSem.ClaimJoined
import GoSem.ClaimMapViews
import Derived.JoinedTies
import Derived.KernelRfl
namespace Go.Proofs.Ythjmbcnohgaihaa
/- THE CELL 'sum', in the pinned program and in every row, IS THE sha256 OF THE DUMP (.gsa) THAT YthjmbcnohgaihaaProg.lean LOADS. Nothing in Lean hashes anything: it is a label: what it is worth is what the hold of that sum in a sandbox is worth. -/
noncomputable def Try.pinned : Pinned := { name := "ythjmbcnohgaihaa", sum := "9f7ecc8edac0158d56713c17f4e9039e10a87f656cb839fe84d1e28a26aa47cc", checked := Try.checked }
namespace Rows
def none {H : Type} : Left H := { results := [], args := [] }

/-- 'skiarealaw20.LiftSafe': WHATEVER THE INPUT: true; the input reads as it did. -/
def liftSafeSpec : ChangeSpec := { name := "liftSafe", fn := fun _ => fun
  | [d1, d2] => { results := [.lit (.bool true)], args := [d1, d2] }
  | _ => none }
def liftSafeRow : OpenClaim := { program := "ythjmbcnohgaihaa", sum := "9f7ecc8edac0158d56713c17f4e9039e10a87f656cb839fe84d1e28a26aa47cc", func := "skiarea/skiarealaw20.LiftSafe", spec := "liftSafe", unfollowed := true, recurses := true, apart := false }
def LiftSafeSaid : Prop := liftSafeRow.holds Try.pinned (OpenSpec.ofChange liftSafeSpec)

/-- ITS FALSE NEIGHBOUR: 'it returns false'. Refute it at one input. -/
def liftSafeWrong : ChangeSpec := { name := "liftSafe", fn := fun _ => fun
  | [d1, d2] => { results := [.lit (.bool false)], args := [d1, d2] }
  | _ => none }
def LiftSafeWrongFalsely : Prop := liftSafeRow.holds Try.pinned (OpenSpec.ofChange liftSafeWrong)

/-- 'skiarealaw20.LiftPeople': WHATEVER THE INPUT: true; the input reads as it did. -/
def liftPeopleSpec : ChangeSpec := { name := "liftPeople", fn := fun _ => fun
  | [d1, d2] => { results := [.lit (.bool true)], args := [d1, d2] }
  | _ => none }
def liftPeopleRow : OpenClaim := { program := "ythjmbcnohgaihaa", sum := "9f7ecc8edac0158d56713c17f4e9039e10a87f656cb839fe84d1e28a26aa47cc", func := "skiarea/skiarealaw20.LiftPeople", spec := "liftPeople", unfollowed := true, recurses := true, apart := false }
def LiftPeopleSaid : Prop := liftPeopleRow.holds Try.pinned (OpenSpec.ofChange liftPeopleSpec)

/-- ITS FALSE NEIGHBOUR: 'it returns false'. Refute it at one input. -/
def liftPeopleWrong : ChangeSpec := { name := "liftPeople", fn := fun _ => fun
  | [d1, d2] => { results := [.lit (.bool false)], args := [d1, d2] }
  | _ => none }
def LiftPeopleWrongFalsely : Prop := liftPeopleRow.holds Try.pinned (OpenSpec.ofChange liftPeopleWrong)

/-- 'skiarealaw20.LiftStops': WHATEVER THE INPUT: true; the input reads as it did. -/
def liftStopsSpec : ChangeSpec := { name := "liftStops", fn := fun _ => fun
  | [d1, d2, d3] => { results := [.lit (.bool true)], args := [d1, d2, d3] }
  | _ => none }
def liftStopsRow : OpenClaim := { program := "ythjmbcnohgaihaa", sum := "9f7ecc8edac0158d56713c17f4e9039e10a87f656cb839fe84d1e28a26aa47cc", func := "skiarea/skiarealaw20.LiftStops", spec := "liftStops", unfollowed := true, recurses := true, apart := false }
def LiftStopsSaid : Prop := liftStopsRow.holds Try.pinned (OpenSpec.ofChange liftStopsSpec)

/-- ITS FALSE NEIGHBOUR: 'it returns false'. Refute it at one input. -/
def liftStopsWrong : ChangeSpec := { name := "liftStops", fn := fun _ => fun
  | [d1, d2, d3] => { results := [.lit (.bool false)], args := [d1, d2, d3] }
  | _ => none }
def LiftStopsWrongFalsely : Prop := liftStopsRow.holds Try.pinned (OpenSpec.ofChange liftStopsWrong)

/-- 'skiarealaw20.LiftCloses': WHATEVER THE INPUT: true; the input reads as it did. -/
def liftClosesSpec : ChangeSpec := { name := "liftCloses", fn := fun _ => fun
  | [d1, d2, d3] => { results := [.lit (.bool true)], args := [d1, d2, d3] }
  | _ => none }
def liftClosesRow : OpenClaim := { program := "ythjmbcnohgaihaa", sum := "9f7ecc8edac0158d56713c17f4e9039e10a87f656cb839fe84d1e28a26aa47cc", func := "skiarea/skiarealaw20.LiftCloses", spec := "liftCloses", unfollowed := true, recurses := true, apart := false }
def LiftClosesSaid : Prop := liftClosesRow.holds Try.pinned (OpenSpec.ofChange liftClosesSpec)

/-- ITS FALSE NEIGHBOUR: 'it returns false'. Refute it at one input. -/
def liftClosesWrong : ChangeSpec := { name := "liftCloses", fn := fun _ => fun
  | [d1, d2, d3] => { results := [.lit (.bool false)], args := [d1, d2, d3] }
  | _ => none }
def LiftClosesWrongFalsely : Prop := liftClosesRow.holds Try.pinned (OpenSpec.ofChange liftClosesWrong)

/- THE SECOND FORM. 'bulk': how many values and letters a reading holds, each counted each time it is reached (what is shared counts as often as it is met; a slice's spare places count too). A statement '..UptoSaid' is the law's where the arguments, and the package variables that the reading takes, are together of bulk at most 1048576: NARROWER than '..Said'. Prove '..Said' where nothing that the law and all that it calls make is longer than what came in: it says more and counts as full. Else prove '..UptoSaid'. A law counts once. -/
mutual
def uptoBulk {H : Type} : DataW H → Nat
  | .lit (.string bytes) => bytes.length + 1
  | .lit _ => 1
  | .nil => 1
  | .ptr d => uptoBulk d + 1
  | .slice elems spare => uptoBulkAll elems + uptoBulkAll spare + 1
  | .agg parts => uptoBulkAll parts + 1
  | .iface _ d => uptoBulk d + 1
  | .map entries => uptoBulkEntries entries + 1
  | .held _ => 1
def uptoBulkAll {H : Type} : List (DataW H) → Nat
  | [] => 0
  | d :: r => uptoBulk d + uptoBulkAll r
def uptoBulkEntries {H : Type} : List (Lit × DataW H) → Nat
  | [] => 0
  | x :: r => uptoBulkEntry x + uptoBulkEntries r
def uptoBulkEntry {H : Type} : Lit × DataW H → Nat
  | (.string bytes, d) => bytes.length + uptoBulk d + 1
  | (_, d) => uptoBulk d + 1
 end
def uptoSmall : (H : Type) → List (DataW H) → Bool := fun _ ds => decide (uptoBulkAll ds ≤ 1048576)
def OpenSpec.upto (s : _root_.Go.ChangeSpec) : _root_.Go.OpenSpec := { _root_.Go.OpenSpec.ofChange s with cond := some uptoSmall }

/-- 'skiarealaw20.LiftSafe', WHERE WHAT IT READS IS OF BULK AT MOST 1048576: true; the input reads as it did. -/
def liftSafeUptoRow : OpenClaim := { program := "ythjmbcnohgaihaa", sum := "9f7ecc8edac0158d56713c17f4e9039e10a87f656cb839fe84d1e28a26aa47cc", func := "skiarea/skiarealaw20.LiftSafe", spec := "liftSafe", unfollowed := true, recurses := true, apart := false, narrowed := true }
def LiftSafeUptoSaid : Prop := liftSafeUptoRow.holds Try.pinned (OpenSpec.upto liftSafeSpec)

/-- 'skiarealaw20.LiftPeople', WHERE WHAT IT READS IS OF BULK AT MOST 1048576: true; the input reads as it did. -/
def liftPeopleUptoRow : OpenClaim := { program := "ythjmbcnohgaihaa", sum := "9f7ecc8edac0158d56713c17f4e9039e10a87f656cb839fe84d1e28a26aa47cc", func := "skiarea/skiarealaw20.LiftPeople", spec := "liftPeople", unfollowed := true, recurses := true, apart := false, narrowed := true }
def LiftPeopleUptoSaid : Prop := liftPeopleUptoRow.holds Try.pinned (OpenSpec.upto liftPeopleSpec)

/-- 'skiarealaw20.LiftStops', WHERE WHAT IT READS IS OF BULK AT MOST 1048576: true; the input reads as it did. -/
def liftStopsUptoRow : OpenClaim := { program := "ythjmbcnohgaihaa", sum := "9f7ecc8edac0158d56713c17f4e9039e10a87f656cb839fe84d1e28a26aa47cc", func := "skiarea/skiarealaw20.LiftStops", spec := "liftStops", unfollowed := true, recurses := true, apart := false, narrowed := true }
def LiftStopsUptoSaid : Prop := liftStopsUptoRow.holds Try.pinned (OpenSpec.upto liftStopsSpec)

/-- 'skiarealaw20.LiftCloses', WHERE WHAT IT READS IS OF BULK AT MOST 1048576: true; the input reads as it did. -/
def liftClosesUptoRow : OpenClaim := { program := "ythjmbcnohgaihaa", sum := "9f7ecc8edac0158d56713c17f4e9039e10a87f656cb839fe84d1e28a26aa47cc", func := "skiarea/skiarealaw20.LiftCloses", spec := "liftCloses", unfollowed := true, recurses := true, apart := false, narrowed := true }
def LiftClosesUptoSaid : Prop := liftClosesUptoRow.holds Try.pinned (OpenSpec.upto liftClosesSpec)

end Rows
end Go.Proofs.Ythjmbcnohgaihaa
