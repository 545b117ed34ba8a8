/-
  No cell of these rows narrows 'for every input' (looked for: loops, veiled, ifaces, maps, wideKeys, modest, calm, conditions, laid).
  DERIVED. THE GIVEN ROWS OF THIS SEAT. 4 by the template 'for every input the law returns true; each argument reads behind the call as it read before'; 0 by the template 'total and deterministic' (their statements: YtkhkblihdabnoaaTotals.lean).
  GIVEN WITH THE SEED: the statements are not yours to turn. If you find one false, say at which input.
  Laid BY PROGRAM, IN A SANDBOX (cutbox-rows.mjs): the forced cells as the released guide's own fill.sh prints them over the translation 495836bfe2ede5ba… (all of the seat's roots in one cut). By AI agents, Wed Nov 11 2026. No macro, syntax, notation, axiom, sorry.
-/
import Derived.Test.YtkhkblihdabnoaaChecked
import GoSem.Claim
import GoSem.ClaimJoined
import GoSem.ClaimMapViews
import Derived.JoinedTies
import Derived.KernelRfl
namespace Go.Proofs.Ytkhkblihdabnoaa
/- THE CELL 'sum', in the pinned program and in every row, IS THE sha256 OF THE DUMP (.gsa) THAT YtkhkblihdabnoaaProg.lean LOADS. Nothing in Lean hashes anything: it is a label: what it is worth is what the hold of that sum in a sandbox is worth. -/
noncomputable def Try.pinned : Pinned := { name := "ytkhkblihdabnoaa", sum := "495836bfe2ede5ba8a8b1196a6f9bd3f50a9417316ad1bde37858bc7052958b9", checked := Try.checked }
namespace Rows
def none {H : Type} : Left H := { results := [], args := [] }

/-- 'skiarealaw44.SnowmakingBalance': WHATEVER THE INPUT: true; the input reads as it did. -/
def snowmakingBalanceSpec : ChangeSpec := { name := "snowmakingBalance", fn := fun _ => fun
  | [d1, d2] => { results := [.lit (.bool true)], args := [d1, d2] }
  | _ => none }
def snowmakingBalanceRow : OpenClaim := { program := "ytkhkblihdabnoaa", sum := "495836bfe2ede5ba8a8b1196a6f9bd3f50a9417316ad1bde37858bc7052958b9", func := "skiarea/skiarealaw44.SnowmakingBalance", spec := "snowmakingBalance", unfollowed := true, recurses := true, named := ["math/bits.divideError", "math/bits.overflowError"], apart := false }
def SnowmakingBalanceSaid : Prop := snowmakingBalanceRow.holds Try.pinned (OpenSpec.ofChange snowmakingBalanceSpec)

/-- ITS FALSE NEIGHBOUR: 'it returns false'. Refute it at one input. -/
def snowmakingBalanceWrong : ChangeSpec := { name := "snowmakingBalance", fn := fun _ => fun
  | [d1, d2] => { results := [.lit (.bool false)], args := [d1, d2] }
  | _ => none }
def SnowmakingBalanceWrongFalsely : Prop := snowmakingBalanceRow.holds Try.pinned (OpenSpec.ofChange snowmakingBalanceWrong)

/-- 'skiarealaw44.SnowmakingLimits': WHATEVER THE INPUT: true; the input reads as it did. -/
def snowmakingLimitsSpec : ChangeSpec := { name := "snowmakingLimits", fn := fun _ => fun
  | [d1, d2] => { results := [.lit (.bool true)], args := [d1, d2] }
  | _ => none }
def snowmakingLimitsRow : OpenClaim := { program := "ytkhkblihdabnoaa", sum := "495836bfe2ede5ba8a8b1196a6f9bd3f50a9417316ad1bde37858bc7052958b9", func := "skiarea/skiarealaw44.SnowmakingLimits", spec := "snowmakingLimits", unfollowed := true, recurses := true, named := ["math/bits.divideError", "math/bits.overflowError"], apart := false }
def SnowmakingLimitsSaid : Prop := snowmakingLimitsRow.holds Try.pinned (OpenSpec.ofChange snowmakingLimitsSpec)

/-- ITS FALSE NEIGHBOUR: 'it returns false'. Refute it at one input. -/
def snowmakingLimitsWrong : ChangeSpec := { name := "snowmakingLimits", fn := fun _ => fun
  | [d1, d2] => { results := [.lit (.bool false)], args := [d1, d2] }
  | _ => none }
def SnowmakingLimitsWrongFalsely : Prop := snowmakingLimitsRow.holds Try.pinned (OpenSpec.ofChange snowmakingLimitsWrong)

/-- 'skiarealaw44.SnowmakingIdle': WHATEVER THE INPUT: true; the input reads as it did. -/
def snowmakingIdleSpec : ChangeSpec := { name := "snowmakingIdle", fn := fun _ => fun
  | [d1, d2, d3] => { results := [.lit (.bool true)], args := [d1, d2, d3] }
  | _ => none }
def snowmakingIdleRow : OpenClaim := { program := "ytkhkblihdabnoaa", sum := "495836bfe2ede5ba8a8b1196a6f9bd3f50a9417316ad1bde37858bc7052958b9", func := "skiarea/skiarealaw44.SnowmakingIdle", spec := "snowmakingIdle", unfollowed := true, recurses := true, named := ["math/bits.divideError", "math/bits.overflowError"], apart := false }
def SnowmakingIdleSaid : Prop := snowmakingIdleRow.holds Try.pinned (OpenSpec.ofChange snowmakingIdleSpec)

/-- ITS FALSE NEIGHBOUR: 'it returns false'. Refute it at one input. -/
def snowmakingIdleWrong : ChangeSpec := { name := "snowmakingIdle", fn := fun _ => fun
  | [d1, d2, d3] => { results := [.lit (.bool false)], args := [d1, d2, d3] }
  | _ => none }
def SnowmakingIdleWrongFalsely : Prop := snowmakingIdleRow.holds Try.pinned (OpenSpec.ofChange snowmakingIdleWrong)

/-- 'skiarealaw44.SnowmakingMay': WHATEVER THE INPUT: true; the input reads as it did. -/
def snowmakingMaySpec : ChangeSpec := { name := "snowmakingMay", fn := fun _ => fun
  | [d1, d2, d3] => { results := [.lit (.bool true)], args := [d1, d2, d3] }
  | _ => none }
def snowmakingMayRow : OpenClaim := { program := "ytkhkblihdabnoaa", sum := "495836bfe2ede5ba8a8b1196a6f9bd3f50a9417316ad1bde37858bc7052958b9", func := "skiarea/skiarealaw44.SnowmakingMay", spec := "snowmakingMay", unfollowed := true, recurses := true, named := ["math/bits.divideError", "math/bits.overflowError"], apart := false }
def SnowmakingMaySaid : Prop := snowmakingMayRow.holds Try.pinned (OpenSpec.ofChange snowmakingMaySpec)

/-- ITS FALSE NEIGHBOUR: 'it returns false'. Refute it at one input. -/
def snowmakingMayWrong : ChangeSpec := { name := "snowmakingMay", fn := fun _ => fun
  | [d1, d2, d3] => { results := [.lit (.bool false)], args := [d1, d2, d3] }
  | _ => none }
def SnowmakingMayWrongFalsely : Prop := snowmakingMayRow.holds Try.pinned (OpenSpec.ofChange snowmakingMayWrong)

/- THE SECOND FORM. 'bulk': how many values and letters a reading holds, each counted each time it is reached (what is shared counts as often as it is met; a slice's spare places count too). A statement '..UptoSaid' is the law's where the arguments, and the package variables that the reading takes, are together of bulk at most 1048576: NARROWER than '..Said'. Prove '..Said' where nothing that the law and all that it calls make is longer than what came in: it says more and counts as full. Else prove '..UptoSaid'. A law counts once. -/
mutual
def uptoBulk {H : Type} : DataW H → Nat
  | .lit (.string bytes) => bytes.length + 1
  | .lit _ => 1
  | .nil => 1
  | .ptr d => uptoBulk d + 1
  | .slice elems spare => uptoBulkAll elems + uptoBulkAll spare + 1
  | .agg parts => uptoBulkAll parts + 1
  | .iface _ d => uptoBulk d + 1
  | .map entries => uptoBulkEntries entries + 1
  | .held _ => 1
def uptoBulkAll {H : Type} : List (DataW H) → Nat
  | [] => 0
  | d :: r => uptoBulk d + uptoBulkAll r
def uptoBulkEntries {H : Type} : List (Lit × DataW H) → Nat
  | [] => 0
  | x :: r => uptoBulkEntry x + uptoBulkEntries r
def uptoBulkEntry {H : Type} : Lit × DataW H → Nat
  | (.string bytes, d) => bytes.length + uptoBulk d + 1
  | (_, d) => uptoBulk d + 1
 end
def uptoSmall : (H : Type) → List (DataW H) → Bool := fun _ ds => decide (uptoBulkAll ds ≤ 1048576)
def OpenSpec.upto (s : _root_.Go.ChangeSpec) : _root_.Go.OpenSpec := { _root_.Go.OpenSpec.ofChange s with cond := some uptoSmall }

/-- 'skiarealaw44.SnowmakingBalance', WHERE WHAT IT READS IS OF BULK AT MOST 1048576: true; the input reads as it did. -/
def snowmakingBalanceUptoRow : OpenClaim := { program := "ytkhkblihdabnoaa", sum := "495836bfe2ede5ba8a8b1196a6f9bd3f50a9417316ad1bde37858bc7052958b9", func := "skiarea/skiarealaw44.SnowmakingBalance", spec := "snowmakingBalance", unfollowed := true, recurses := true, named := ["math/bits.divideError", "math/bits.overflowError"], apart := false, narrowed := true }
def SnowmakingBalanceUptoSaid : Prop := snowmakingBalanceUptoRow.holds Try.pinned (OpenSpec.upto snowmakingBalanceSpec)

/-- 'skiarealaw44.SnowmakingLimits', WHERE WHAT IT READS IS OF BULK AT MOST 1048576: true; the input reads as it did. -/
def snowmakingLimitsUptoRow : OpenClaim := { program := "ytkhkblihdabnoaa", sum := "495836bfe2ede5ba8a8b1196a6f9bd3f50a9417316ad1bde37858bc7052958b9", func := "skiarea/skiarealaw44.SnowmakingLimits", spec := "snowmakingLimits", unfollowed := true, recurses := true, named := ["math/bits.divideError", "math/bits.overflowError"], apart := false, narrowed := true }
def SnowmakingLimitsUptoSaid : Prop := snowmakingLimitsUptoRow.holds Try.pinned (OpenSpec.upto snowmakingLimitsSpec)

/-- 'skiarealaw44.SnowmakingIdle', WHERE WHAT IT READS IS OF BULK AT MOST 1048576: true; the input reads as it did. -/
def snowmakingIdleUptoRow : OpenClaim := { program := "ytkhkblihdabnoaa", sum := "495836bfe2ede5ba8a8b1196a6f9bd3f50a9417316ad1bde37858bc7052958b9", func := "skiarea/skiarealaw44.SnowmakingIdle", spec := "snowmakingIdle", unfollowed := true, recurses := true, named := ["math/bits.divideError", "math/bits.overflowError"], apart := false, narrowed := true }
def SnowmakingIdleUptoSaid : Prop := snowmakingIdleUptoRow.holds Try.pinned (OpenSpec.upto snowmakingIdleSpec)

/-- 'skiarealaw44.SnowmakingMay', WHERE WHAT IT READS IS OF BULK AT MOST 1048576: true; the input reads as it did. -/
def snowmakingMayUptoRow : OpenClaim := { program := "ytkhkblihdabnoaa", sum := "495836bfe2ede5ba8a8b1196a6f9bd3f50a9417316ad1bde37858bc7052958b9", func := "skiarea/skiarealaw44.SnowmakingMay", spec := "snowmakingMay", unfollowed := true, recurses := true, named := ["math/bits.divideError", "math/bits.overflowError"], apart := false, narrowed := true }
def SnowmakingMayUptoSaid : Prop := snowmakingMayUptoRow.holds Try.pinned (OpenSpec.upto snowmakingMaySpec)

end Rows
end Go.Proofs.Ytkhkblihdabnoaa
