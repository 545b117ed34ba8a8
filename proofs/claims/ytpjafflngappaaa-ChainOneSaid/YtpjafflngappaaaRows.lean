/-
  No cell of these rows narrows 'for every input' (looked for: loops, veiled, ifaces, maps, wideKeys, modest, calm, conditions, laid).
  DERIVED. THE GIVEN ROWS OF THIS SEAT. 8 by the template 'for every input the law returns true; each argument reads behind the call as it read before'; 0 by the template 'total and deterministic' (their statements: YtpjafflngappaaaTotals.lean).
  GIVEN WITH THE SEED: the statements are not yours to turn. If you find one false, say at which input.
  Laid BY PROGRAM, IN A SANDBOX (cutbox-rows.mjs): the forced cells as the released guide's own fill.sh prints them over the translation f85651429bfa8aca… (all of the seat's roots in one cut). By AI agents, Wed Nov 11 2026. No macro, syntax, notation, axiom, sorry.
-/
import Derived.Test.YtpjafflngappaaaChecked
import GoSem.Claim
import GoSem.ClaimJoined
import GoSem.ClaimMapViews
import Derived.JoinedTies
import Derived.KernelRfl
namespace Go.Proofs.Ytpjafflngappaaa
/- THE CELL 'sum', in the pinned program and in every row, IS THE sha256 OF THE DUMP (.gsa) THAT YtpjafflngappaaaProg.lean LOADS. Nothing in Lean hashes anything: it is a label: what it is worth is what the hold of that sum in a sandbox is worth. -/
noncomputable def Try.pinned : Pinned := { name := "ytpjafflngappaaa", sum := "f85651429bfa8acab6a4ec5a464f0d7849ca1e8858ddcfeebac70b959732deb6", checked := Try.checked }
namespace Rows
def none {H : Type} : Left H := { results := [], args := [] }

/-- 'skiarealaw16.ChainChecks': WHATEVER THE INPUT: true; the input reads as it did. -/
def chainChecksSpec : ChangeSpec := { name := "chainChecks", fn := fun _ => fun
  | [d] => { results := [.lit (.bool true)], args := [d] }
  | _ => none }
def chainChecksRow : OpenClaim := { program := "ytpjafflngappaaa", sum := "f85651429bfa8acab6a4ec5a464f0d7849ca1e8858ddcfeebac70b959732deb6", func := "skiarea/skiarealaw16.ChainChecks", spec := "chainChecks", unfollowed := true, recurses := true, apart := false }
def ChainChecksSaid : Prop := chainChecksRow.holds Try.pinned (OpenSpec.ofChange chainChecksSpec)

/-- ITS FALSE NEIGHBOUR: 'it returns false'. Refute it at one input. -/
def chainChecksWrong : ChangeSpec := { name := "chainChecks", fn := fun _ => fun
  | [d] => { results := [.lit (.bool false)], args := [d] }
  | _ => none }
def ChainChecksWrongFalsely : Prop := chainChecksRow.holds Try.pinned (OpenSpec.ofChange chainChecksWrong)

/-- 'skiarealaw16.ChainContacts': WHATEVER THE INPUT: true; the input reads as it did. -/
def chainContactsSpec : ChangeSpec := { name := "chainContacts", fn := fun _ => fun
  | [d1, d2, d3] => { results := [.lit (.bool true)], args := [d1, d2, d3] }
  | _ => none }
def chainContactsRow : OpenClaim := { program := "ytpjafflngappaaa", sum := "f85651429bfa8acab6a4ec5a464f0d7849ca1e8858ddcfeebac70b959732deb6", func := "skiarea/skiarealaw16.ChainContacts", spec := "chainContacts", unfollowed := true, recurses := true, apart := false }
def ChainContactsSaid : Prop := chainContactsRow.holds Try.pinned (OpenSpec.ofChange chainContactsSpec)

/-- ITS FALSE NEIGHBOUR: 'it returns false'. Refute it at one input. -/
def chainContactsWrong : ChangeSpec := { name := "chainContacts", fn := fun _ => fun
  | [d1, d2, d3] => { results := [.lit (.bool false)], args := [d1, d2, d3] }
  | _ => none }
def ChainContactsWrongFalsely : Prop := chainContactsRow.holds Try.pinned (OpenSpec.ofChange chainContactsWrong)

/-- 'skiarealaw16.ChainTakes': WHATEVER THE INPUT: true; the input reads as it did. -/
def chainTakesSpec : ChangeSpec := { name := "chainTakes", fn := fun _ => fun
  | [d1, d2] => { results := [.lit (.bool true)], args := [d1, d2] }
  | _ => none }
def chainTakesRow : OpenClaim := { program := "ytpjafflngappaaa", sum := "f85651429bfa8acab6a4ec5a464f0d7849ca1e8858ddcfeebac70b959732deb6", func := "skiarea/skiarealaw16.ChainTakes", spec := "chainTakes", unfollowed := true, recurses := true, apart := false }
def ChainTakesSaid : Prop := chainTakesRow.holds Try.pinned (OpenSpec.ofChange chainTakesSpec)

/-- ITS FALSE NEIGHBOUR: 'it returns false'. Refute it at one input. -/
def chainTakesWrong : ChangeSpec := { name := "chainTakes", fn := fun _ => fun
  | [d1, d2] => { results := [.lit (.bool false)], args := [d1, d2] }
  | _ => none }
def ChainTakesWrongFalsely : Prop := chainTakesRow.holds Try.pinned (OpenSpec.ofChange chainTakesWrong)

/-- 'skiarealaw16.ChainBypasses': WHATEVER THE INPUT: true; the input reads as it did. -/
def chainBypassesSpec : ChangeSpec := { name := "chainBypasses", fn := fun _ => fun
  | [d1, d2, d3, d4] => { results := [.lit (.bool true)], args := [d1, d2, d3, d4] }
  | _ => none }
def chainBypassesRow : OpenClaim := { program := "ytpjafflngappaaa", sum := "f85651429bfa8acab6a4ec5a464f0d7849ca1e8858ddcfeebac70b959732deb6", func := "skiarea/skiarealaw16.ChainBypasses", spec := "chainBypasses", unfollowed := true, recurses := true, apart := false }
def ChainBypassesSaid : Prop := chainBypassesRow.holds Try.pinned (OpenSpec.ofChange chainBypassesSpec)

/-- ITS FALSE NEIGHBOUR: 'it returns false'. Refute it at one input. -/
def chainBypassesWrong : ChangeSpec := { name := "chainBypasses", fn := fun _ => fun
  | [d1, d2, d3, d4] => { results := [.lit (.bool false)], args := [d1, d2, d3, d4] }
  | _ => none }
def ChainBypassesWrongFalsely : Prop := chainBypassesRow.holds Try.pinned (OpenSpec.ofChange chainBypassesWrong)

/-- 'skiarealaw16.ChainFaults': WHATEVER THE INPUT: true; the input reads as it did. -/
def chainFaultsSpec : ChangeSpec := { name := "chainFaults", fn := fun _ => fun
  | [d1, d2, d3] => { results := [.lit (.bool true)], args := [d1, d2, d3] }
  | _ => none }
def chainFaultsRow : OpenClaim := { program := "ytpjafflngappaaa", sum := "f85651429bfa8acab6a4ec5a464f0d7849ca1e8858ddcfeebac70b959732deb6", func := "skiarea/skiarealaw16.ChainFaults", spec := "chainFaults", unfollowed := true, recurses := true, apart := false }
def ChainFaultsSaid : Prop := chainFaultsRow.holds Try.pinned (OpenSpec.ofChange chainFaultsSpec)

/-- ITS FALSE NEIGHBOUR: 'it returns false'. Refute it at one input. -/
def chainFaultsWrong : ChangeSpec := { name := "chainFaults", fn := fun _ => fun
  | [d1, d2, d3] => { results := [.lit (.bool false)], args := [d1, d2, d3] }
  | _ => none }
def ChainFaultsWrongFalsely : Prop := chainFaultsRow.holds Try.pinned (OpenSpec.ofChange chainFaultsWrong)

/-- 'skiarealaw16.ChainStays': WHATEVER THE INPUT: true; the input reads as it did. -/
def chainStaysSpec : ChangeSpec := { name := "chainStays", fn := fun _ => fun
  | [d1, d2] => { results := [.lit (.bool true)], args := [d1, d2] }
  | _ => none }
def chainStaysRow : OpenClaim := { program := "ytpjafflngappaaa", sum := "f85651429bfa8acab6a4ec5a464f0d7849ca1e8858ddcfeebac70b959732deb6", func := "skiarea/skiarealaw16.ChainStays", spec := "chainStays", unfollowed := true, recurses := true, apart := false }
def ChainStaysSaid : Prop := chainStaysRow.holds Try.pinned (OpenSpec.ofChange chainStaysSpec)

/-- ITS FALSE NEIGHBOUR: 'it returns false'. Refute it at one input. -/
def chainStaysWrong : ChangeSpec := { name := "chainStays", fn := fun _ => fun
  | [d1, d2] => { results := [.lit (.bool false)], args := [d1, d2] }
  | _ => none }
def ChainStaysWrongFalsely : Prop := chainStaysRow.holds Try.pinned (OpenSpec.ofChange chainStaysWrong)

/-- 'skiarealaw16.ChainOne': WHATEVER THE INPUT: true; the input reads as it did. -/
def chainOneSpec : ChangeSpec := { name := "chainOne", fn := fun _ => fun
  | [d1, d2] => { results := [.lit (.bool true)], args := [d1, d2] }
  | _ => none }
def chainOneRow : OpenClaim := { program := "ytpjafflngappaaa", sum := "f85651429bfa8acab6a4ec5a464f0d7849ca1e8858ddcfeebac70b959732deb6", func := "skiarea/skiarealaw16.ChainOne", spec := "chainOne", unfollowed := true, recurses := true, apart := false }
def ChainOneSaid : Prop := chainOneRow.holds Try.pinned (OpenSpec.ofChange chainOneSpec)

/-- ITS FALSE NEIGHBOUR: 'it returns false'. Refute it at one input. -/
def chainOneWrong : ChangeSpec := { name := "chainOne", fn := fun _ => fun
  | [d1, d2] => { results := [.lit (.bool false)], args := [d1, d2] }
  | _ => none }
def ChainOneWrongFalsely : Prop := chainOneRow.holds Try.pinned (OpenSpec.ofChange chainOneWrong)

/-- 'skiarealaw16.ChainInterrupts': WHATEVER THE INPUT: true; the input reads as it did. -/
def chainInterruptsSpec : ChangeSpec := { name := "chainInterrupts", fn := fun _ => fun
  | [d1, d2, d3, d4] => { results := [.lit (.bool true)], args := [d1, d2, d3, d4] }
  | _ => none }
def chainInterruptsRow : OpenClaim := { program := "ytpjafflngappaaa", sum := "f85651429bfa8acab6a4ec5a464f0d7849ca1e8858ddcfeebac70b959732deb6", func := "skiarea/skiarealaw16.ChainInterrupts", spec := "chainInterrupts", unfollowed := true, recurses := true, apart := false }
def ChainInterruptsSaid : Prop := chainInterruptsRow.holds Try.pinned (OpenSpec.ofChange chainInterruptsSpec)

/-- ITS FALSE NEIGHBOUR: 'it returns false'. Refute it at one input. -/
def chainInterruptsWrong : ChangeSpec := { name := "chainInterrupts", fn := fun _ => fun
  | [d1, d2, d3, d4] => { results := [.lit (.bool false)], args := [d1, d2, d3, d4] }
  | _ => none }
def ChainInterruptsWrongFalsely : Prop := chainInterruptsRow.holds Try.pinned (OpenSpec.ofChange chainInterruptsWrong)

/- THE SECOND FORM. 'bulk': how many values and letters a reading holds, each counted each time it is reached (what is shared counts as often as it is met; a slice's spare places count too). A statement '..UptoSaid' is the law's where the arguments, and the package variables that the reading takes, are together of bulk at most 1048576: NARROWER than '..Said'. Prove '..Said' where nothing that the law and all that it calls make is longer than what came in: it says more and counts as full. Else prove '..UptoSaid'. A law counts once. -/
mutual
def uptoBulk {H : Type} : DataW H → Nat
  | .lit (.string bytes) => bytes.length + 1
  | .lit _ => 1
  | .nil => 1
  | .ptr d => uptoBulk d + 1
  | .slice elems spare => uptoBulkAll elems + uptoBulkAll spare + 1
  | .agg parts => uptoBulkAll parts + 1
  | .iface _ d => uptoBulk d + 1
  | .map entries => uptoBulkEntries entries + 1
  | .held _ => 1
def uptoBulkAll {H : Type} : List (DataW H) → Nat
  | [] => 0
  | d :: r => uptoBulk d + uptoBulkAll r
def uptoBulkEntries {H : Type} : List (Lit × DataW H) → Nat
  | [] => 0
  | x :: r => uptoBulkEntry x + uptoBulkEntries r
def uptoBulkEntry {H : Type} : Lit × DataW H → Nat
  | (.string bytes, d) => bytes.length + uptoBulk d + 1
  | (_, d) => uptoBulk d + 1
 end
def uptoSmall : (H : Type) → List (DataW H) → Bool := fun _ ds => decide (uptoBulkAll ds ≤ 1048576)
def OpenSpec.upto (s : _root_.Go.ChangeSpec) : _root_.Go.OpenSpec := { _root_.Go.OpenSpec.ofChange s with cond := some uptoSmall }

/-- 'skiarealaw16.ChainChecks', WHERE WHAT IT READS IS OF BULK AT MOST 1048576: true; the input reads as it did. -/
def chainChecksUptoRow : OpenClaim := { program := "ytpjafflngappaaa", sum := "f85651429bfa8acab6a4ec5a464f0d7849ca1e8858ddcfeebac70b959732deb6", func := "skiarea/skiarealaw16.ChainChecks", spec := "chainChecks", unfollowed := true, recurses := true, apart := false, narrowed := true }
def ChainChecksUptoSaid : Prop := chainChecksUptoRow.holds Try.pinned (OpenSpec.upto chainChecksSpec)

/-- 'skiarealaw16.ChainContacts', WHERE WHAT IT READS IS OF BULK AT MOST 1048576: true; the input reads as it did. -/
def chainContactsUptoRow : OpenClaim := { program := "ytpjafflngappaaa", sum := "f85651429bfa8acab6a4ec5a464f0d7849ca1e8858ddcfeebac70b959732deb6", func := "skiarea/skiarealaw16.ChainContacts", spec := "chainContacts", unfollowed := true, recurses := true, apart := false, narrowed := true }
def ChainContactsUptoSaid : Prop := chainContactsUptoRow.holds Try.pinned (OpenSpec.upto chainContactsSpec)

/-- 'skiarealaw16.ChainTakes', WHERE WHAT IT READS IS OF BULK AT MOST 1048576: true; the input reads as it did. -/
def chainTakesUptoRow : OpenClaim := { program := "ytpjafflngappaaa", sum := "f85651429bfa8acab6a4ec5a464f0d7849ca1e8858ddcfeebac70b959732deb6", func := "skiarea/skiarealaw16.ChainTakes", spec := "chainTakes", unfollowed := true, recurses := true, apart := false, narrowed := true }
def ChainTakesUptoSaid : Prop := chainTakesUptoRow.holds Try.pinned (OpenSpec.upto chainTakesSpec)

/-- 'skiarealaw16.ChainBypasses', WHERE WHAT IT READS IS OF BULK AT MOST 1048576: true; the input reads as it did. -/
def chainBypassesUptoRow : OpenClaim := { program := "ytpjafflngappaaa", sum := "f85651429bfa8acab6a4ec5a464f0d7849ca1e8858ddcfeebac70b959732deb6", func := "skiarea/skiarealaw16.ChainBypasses", spec := "chainBypasses", unfollowed := true, recurses := true, apart := false, narrowed := true }
def ChainBypassesUptoSaid : Prop := chainBypassesUptoRow.holds Try.pinned (OpenSpec.upto chainBypassesSpec)

/-- 'skiarealaw16.ChainFaults', WHERE WHAT IT READS IS OF BULK AT MOST 1048576: true; the input reads as it did. -/
def chainFaultsUptoRow : OpenClaim := { program := "ytpjafflngappaaa", sum := "f85651429bfa8acab6a4ec5a464f0d7849ca1e8858ddcfeebac70b959732deb6", func := "skiarea/skiarealaw16.ChainFaults", spec := "chainFaults", unfollowed := true, recurses := true, apart := false, narrowed := true }
def ChainFaultsUptoSaid : Prop := chainFaultsUptoRow.holds Try.pinned (OpenSpec.upto chainFaultsSpec)

/-- 'skiarealaw16.ChainStays', WHERE WHAT IT READS IS OF BULK AT MOST 1048576: true; the input reads as it did. -/
def chainStaysUptoRow : OpenClaim := { program := "ytpjafflngappaaa", sum := "f85651429bfa8acab6a4ec5a464f0d7849ca1e8858ddcfeebac70b959732deb6", func := "skiarea/skiarealaw16.ChainStays", spec := "chainStays", unfollowed := true, recurses := true, apart := false, narrowed := true }
def ChainStaysUptoSaid : Prop := chainStaysUptoRow.holds Try.pinned (OpenSpec.upto chainStaysSpec)

/-- 'skiarealaw16.ChainOne', WHERE WHAT IT READS IS OF BULK AT MOST 1048576: true; the input reads as it did. -/
def chainOneUptoRow : OpenClaim := { program := "ytpjafflngappaaa", sum := "f85651429bfa8acab6a4ec5a464f0d7849ca1e8858ddcfeebac70b959732deb6", func := "skiarea/skiarealaw16.ChainOne", spec := "chainOne", unfollowed := true, recurses := true, apart := false, narrowed := true }
def ChainOneUptoSaid : Prop := chainOneUptoRow.holds Try.pinned (OpenSpec.upto chainOneSpec)

/-- 'skiarealaw16.ChainInterrupts', WHERE WHAT IT READS IS OF BULK AT MOST 1048576: true; the input reads as it did. -/
def chainInterruptsUptoRow : OpenClaim := { program := "ytpjafflngappaaa", sum := "f85651429bfa8acab6a4ec5a464f0d7849ca1e8858ddcfeebac70b959732deb6", func := "skiarea/skiarealaw16.ChainInterrupts", spec := "chainInterrupts", unfollowed := true, recurses := true, apart := false, narrowed := true }
def ChainInterruptsUptoSaid : Prop := chainInterruptsUptoRow.holds Try.pinned (OpenSpec.upto chainInterruptsSpec)

end Rows
end Go.Proofs.Ytpjafflngappaaa
