/-
  No cell of these rows narrows 'for every input' (looked for: loops, veiled, ifaces, maps, wideKeys, modest, calm, conditions, laid).
  DERIVED. THE GIVEN ROWS OF THIS SEAT. 3 by the template 'for every input the law returns true; each argument reads behind the call as it read before'; 0 by the template 'total and deterministic' (their statements: YtkhkblihdabnoaaGreatTotals.lean).
  GIVEN WITH THE SEED: the statements are not yours to turn. If you find one false, say at which input.
  Laid BY PROGRAM, IN A SANDBOX (cutbox-rows.mjs): the forced cells as the released guide's own fill.sh prints them over the translation b66f45e8cb395df2… (all of the seat's roots in one cut). By AI agents, Wed Nov 11 2026. No macro, syntax, notation, axiom, sorry.
-/
import Derived.Test.YtkhkblihdabnoaaGreatChecked
import GoSem.Claim
import GoSem.ClaimJoined
import GoSem.ClaimMapViews
import Derived.JoinedTies
import Derived.KernelRfl
namespace Go.Proofs.YtkhkblihdabnoaaGreat
/- THE CELL 'sum', in the pinned program and in every row, IS THE sha256 OF THE DUMP (.gsa) THAT YtkhkblihdabnoaaGreatProg.lean LOADS. Nothing in Lean hashes anything: it is a label: what it is worth is what the hold of that sum in a sandbox is worth. -/
noncomputable def Tryz.pinned : Pinned := { name := "ytkhkblihdabnoaagreat", sum := "b66f45e8cb395df2c00b5ab555156fa3ba0489c6369a05b38586c5140899bd29", checked := Tryz.checked }
namespace Rows
def none {H : Type} : Left H := { results := [], args := [] }

/-- 'skiarealaw44.SnowmakingChecks': WHATEVER THE INPUT: true; the input reads as it did. -/
def snowmakingChecksSpec : ChangeSpec := { name := "snowmakingChecks", fn := fun _ => fun
  | [d1, d2] => { results := [.lit (.bool true)], args := [d1, d2] }
  | _ => none }
def snowmakingChecksRow : OpenClaim := { program := "ytkhkblihdabnoaagreat", sum := "b66f45e8cb395df2c00b5ab555156fa3ba0489c6369a05b38586c5140899bd29", func := "skiarea/skiarealaw44.SnowmakingChecks", spec := "snowmakingChecks", unfollowed := true, recurses := true, named := ["math/bits.divideError", "math/bits.overflowError"], apart := false }
def SnowmakingChecksSaid : Prop := snowmakingChecksRow.holds Tryz.pinned (OpenSpec.ofChange snowmakingChecksSpec)

/-- ITS FALSE NEIGHBOUR: 'it returns false'. Refute it at one input. -/
def snowmakingChecksWrong : ChangeSpec := { name := "snowmakingChecks", fn := fun _ => fun
  | [d1, d2] => { results := [.lit (.bool false)], args := [d1, d2] }
  | _ => none }
def SnowmakingChecksWrongFalsely : Prop := snowmakingChecksRow.holds Tryz.pinned (OpenSpec.ofChange snowmakingChecksWrong)

/-- 'skiarealaw44.SnowmakingPlays': WHATEVER THE INPUT: true; the input reads as it did. -/
def snowmakingPlaysSpec : ChangeSpec := { name := "snowmakingPlays", fn := fun _ => fun
  | [d1, d2] => { results := [.lit (.bool true)], args := [d1, d2] }
  | _ => none }
def snowmakingPlaysRow : OpenClaim := { program := "ytkhkblihdabnoaagreat", sum := "b66f45e8cb395df2c00b5ab555156fa3ba0489c6369a05b38586c5140899bd29", func := "skiarea/skiarealaw44.SnowmakingPlays", spec := "snowmakingPlays", unfollowed := true, recurses := true, named := ["math/bits.divideError", "math/bits.overflowError"], apart := false }
def SnowmakingPlaysSaid : Prop := snowmakingPlaysRow.holds Tryz.pinned (OpenSpec.ofChange snowmakingPlaysSpec)

/-- ITS FALSE NEIGHBOUR: 'it returns false'. Refute it at one input. -/
def snowmakingPlaysWrong : ChangeSpec := { name := "snowmakingPlays", fn := fun _ => fun
  | [d1, d2] => { results := [.lit (.bool false)], args := [d1, d2] }
  | _ => none }
def SnowmakingPlaysWrongFalsely : Prop := snowmakingPlaysRow.holds Tryz.pinned (OpenSpec.ofChange snowmakingPlaysWrong)

/-- 'skiarealaw44.SnowmakingBalances': WHATEVER THE INPUT: true; the input reads as it did. -/
def snowmakingBalancesSpec : ChangeSpec := { name := "snowmakingBalances", fn := fun _ => fun
  | [d1, d2] => { results := [.lit (.bool true)], args := [d1, d2] }
  | _ => none }
def snowmakingBalancesRow : OpenClaim := { program := "ytkhkblihdabnoaagreat", sum := "b66f45e8cb395df2c00b5ab555156fa3ba0489c6369a05b38586c5140899bd29", func := "skiarea/skiarealaw44.SnowmakingBalances", spec := "snowmakingBalances", unfollowed := true, recurses := true, named := ["math/bits.divideError", "math/bits.overflowError"], apart := false }
def SnowmakingBalancesSaid : Prop := snowmakingBalancesRow.holds Tryz.pinned (OpenSpec.ofChange snowmakingBalancesSpec)

/-- ITS FALSE NEIGHBOUR: 'it returns false'. Refute it at one input. -/
def snowmakingBalancesWrong : ChangeSpec := { name := "snowmakingBalances", fn := fun _ => fun
  | [d1, d2] => { results := [.lit (.bool false)], args := [d1, d2] }
  | _ => none }
def SnowmakingBalancesWrongFalsely : Prop := snowmakingBalancesRow.holds Tryz.pinned (OpenSpec.ofChange snowmakingBalancesWrong)

/- THE SECOND FORM. 'bulk': how many values and letters a reading holds, each counted each time it is reached (what is shared counts as often as it is met; a slice's spare places count too). A statement '..UptoSaid' is the law's where the arguments, and the package variables that the reading takes, are together of bulk at most 1048576: NARROWER than '..Said'. Prove '..Said' where nothing that the law and all that it calls make is longer than what came in: it says more and counts as full. Else prove '..UptoSaid'. A law counts once. -/
mutual
def uptoBulk {H : Type} : DataW H → Nat
  | .lit (.string bytes) => bytes.length + 1
  | .lit _ => 1
  | .nil => 1
  | .ptr d => uptoBulk d + 1
  | .slice elems spare => uptoBulkAll elems + uptoBulkAll spare + 1
  | .agg parts => uptoBulkAll parts + 1
  | .iface _ d => uptoBulk d + 1
  | .map entries => uptoBulkEntries entries + 1
  | .held _ => 1
def uptoBulkAll {H : Type} : List (DataW H) → Nat
  | [] => 0
  | d :: r => uptoBulk d + uptoBulkAll r
def uptoBulkEntries {H : Type} : List (Lit × DataW H) → Nat
  | [] => 0
  | x :: r => uptoBulkEntry x + uptoBulkEntries r
def uptoBulkEntry {H : Type} : Lit × DataW H → Nat
  | (.string bytes, d) => bytes.length + uptoBulk d + 1
  | (_, d) => uptoBulk d + 1
 end
def uptoSmall : (H : Type) → List (DataW H) → Bool := fun _ ds => decide (uptoBulkAll ds ≤ 1048576)
def OpenSpec.upto (s : _root_.Go.ChangeSpec) : _root_.Go.OpenSpec := { _root_.Go.OpenSpec.ofChange s with cond := some uptoSmall }

/-- 'skiarealaw44.SnowmakingChecks', WHERE WHAT IT READS IS OF BULK AT MOST 1048576: true; the input reads as it did. -/
def snowmakingChecksUptoRow : OpenClaim := { program := "ytkhkblihdabnoaagreat", sum := "b66f45e8cb395df2c00b5ab555156fa3ba0489c6369a05b38586c5140899bd29", func := "skiarea/skiarealaw44.SnowmakingChecks", spec := "snowmakingChecks", unfollowed := true, recurses := true, named := ["math/bits.divideError", "math/bits.overflowError"], apart := false, narrowed := true }
def SnowmakingChecksUptoSaid : Prop := snowmakingChecksUptoRow.holds Tryz.pinned (OpenSpec.upto snowmakingChecksSpec)

/-- 'skiarealaw44.SnowmakingPlays', WHERE WHAT IT READS IS OF BULK AT MOST 1048576: true; the input reads as it did. -/
def snowmakingPlaysUptoRow : OpenClaim := { program := "ytkhkblihdabnoaagreat", sum := "b66f45e8cb395df2c00b5ab555156fa3ba0489c6369a05b38586c5140899bd29", func := "skiarea/skiarealaw44.SnowmakingPlays", spec := "snowmakingPlays", unfollowed := true, recurses := true, named := ["math/bits.divideError", "math/bits.overflowError"], apart := false, narrowed := true }
def SnowmakingPlaysUptoSaid : Prop := snowmakingPlaysUptoRow.holds Tryz.pinned (OpenSpec.upto snowmakingPlaysSpec)

/-- 'skiarealaw44.SnowmakingBalances', WHERE WHAT IT READS IS OF BULK AT MOST 1048576: true; the input reads as it did. -/
def snowmakingBalancesUptoRow : OpenClaim := { program := "ytkhkblihdabnoaagreat", sum := "b66f45e8cb395df2c00b5ab555156fa3ba0489c6369a05b38586c5140899bd29", func := "skiarea/skiarealaw44.SnowmakingBalances", spec := "snowmakingBalances", unfollowed := true, recurses := true, named := ["math/bits.divideError", "math/bits.overflowError"], apart := false, narrowed := true }
def SnowmakingBalancesUptoSaid : Prop := snowmakingBalancesUptoRow.holds Tryz.pinned (OpenSpec.upto snowmakingBalancesSpec)

end Rows
end Go.Proofs.YtkhkblihdabnoaaGreat
