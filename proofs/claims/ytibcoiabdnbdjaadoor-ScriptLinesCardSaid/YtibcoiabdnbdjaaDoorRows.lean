/-
  NARROWER THAN 'FOR EVERY INPUT', by the rows' own cells (each row's printed sentence says how): ScriptParses: laid · ScriptReplies: laid · ScriptParts: laid · ScriptPrints: laid · ScriptBack: laid · ScriptLines: laid.
  DERIVED. THE GIVEN ROWS OF THIS SEAT. 6 by the template 'for every input the law returns true; each argument reads behind the call as it read before'; 0 by the template 'total and deterministic' (their statements: YtibcoiabdnbdjaaDoorTotals.lean).
  GIVEN WITH THE SEED: the statements are not yours to turn. If you find one false, say at which input.
  Laid BY PROGRAM, IN A SANDBOX (cutbox-rows.mjs): the forced cells as the released guide's own fill.sh prints them over the translation bda21cbb27832ab8… (all of the seat's roots in one cut). By AI agents, Wed Nov 11 2026. No macro, syntax, notation, axiom, sorry.
-/
import Derived.Test.YtibcoiabdnbdjaaDoorChecked
import GoSem.Claim
import GoSem.ClaimJoined
import GoSem.ClaimMapViews
import Derived.JoinedTies
import Derived.KernelRfl
namespace Go.Proofs.YtibcoiabdnbdjaaDoor
/- THE CELL 'sum', in the pinned program and in every row, IS THE sha256 OF THE DUMP (.gsa) THAT YtibcoiabdnbdjaaDoorProg.lean LOADS. Nothing in Lean hashes anything: it is a label: what it is worth is what the hold of that sum in a sandbox is worth. -/
noncomputable def Tryd.pinned : Pinned := { name := "ytibcoiabdnbdjaadoor", sum := "bda21cbb27832ab846430d030c9beaf1c67d9af2f9ac39e07b72a65915fd9580", checked := Tryd.checked }
namespace Rows
def none {H : Type} : Left H := { results := [], args := [] }

/- WHAT THE LISTED PACKAGE-LEVEL VARIABLES READ AS WHEN THE CALL BEGINS. Each datum BY PROGRAM (the guide's laid-datum.mjs) off the statement by which the dump's own 'gosem.cut.vars' lays the variable. In a bare row this is a premise. The card (YtibcoiabdnbdjaaDoorCards.lean) ties it to the program's text. -/
def laid_math_bits_deBruijn32tab {H : Type} : DataW H := .agg [.lit (.int .u8 0), .lit (.int .u8 1), .lit (.int .u8 28), .lit (.int .u8 2), .lit (.int .u8 29), .lit (.int .u8 14), .lit (.int .u8 24), .lit (.int .u8 3), .lit (.int .u8 30), .lit (.int .u8 22), .lit (.int .u8 20), .lit (.int .u8 15), .lit (.int .u8 25), .lit (.int .u8 17), .lit (.int .u8 4), .lit (.int .u8 8), .lit (.int .u8 31), .lit (.int .u8 27), .lit (.int .u8 13), .lit (.int .u8 23), .lit (.int .u8 21), .lit (.int .u8 19), .lit (.int .u8 16), .lit (.int .u8 7), .lit (.int .u8 26), .lit (.int .u8 12), .lit (.int .u8 18), .lit (.int .u8 6), .lit (.int .u8 11), .lit (.int .u8 5), .lit (.int .u8 10), .lit (.int .u8 9)]
def laid_math_bits_deBruijn64tab {H : Type} : DataW H := .agg [.lit (.int .u8 0), .lit (.int .u8 1), .lit (.int .u8 56), .lit (.int .u8 2), .lit (.int .u8 57), .lit (.int .u8 49), .lit (.int .u8 28), .lit (.int .u8 3), .lit (.int .u8 61), .lit (.int .u8 58), .lit (.int .u8 42), .lit (.int .u8 50), .lit (.int .u8 38), .lit (.int .u8 29), .lit (.int .u8 17), .lit (.int .u8 4), .lit (.int .u8 62), .lit (.int .u8 47), .lit (.int .u8 59), .lit (.int .u8 36), .lit (.int .u8 45), .lit (.int .u8 43), .lit (.int .u8 51), .lit (.int .u8 22), .lit (.int .u8 53), .lit (.int .u8 39), .lit (.int .u8 33), .lit (.int .u8 30), .lit (.int .u8 24), .lit (.int .u8 18), .lit (.int .u8 12), .lit (.int .u8 5), .lit (.int .u8 63), .lit (.int .u8 55), .lit (.int .u8 48), .lit (.int .u8 27), .lit (.int .u8 60), .lit (.int .u8 41), .lit (.int .u8 37), .lit (.int .u8 16), .lit (.int .u8 46), .lit (.int .u8 35), .lit (.int .u8 44), .lit (.int .u8 21), .lit (.int .u8 52), .lit (.int .u8 32), .lit (.int .u8 23), .lit (.int .u8 11), .lit (.int .u8 54), .lit (.int .u8 26), .lit (.int .u8 40), .lit (.int .u8 15), .lit (.int .u8 34), .lit (.int .u8 20), .lit (.int .u8 31), .lit (.int .u8 10), .lit (.int .u8 25), .lit (.int .u8 14), .lit (.int .u8 19), .lit (.int .u8 9), .lit (.int .u8 13), .lit (.int .u8 8), .lit (.int .u8 7), .lit (.int .u8 6)]
def laid_internal_strconv_uint64pow10 {H : Type} : DataW H := .agg [.lit (.int .u64 1), .lit (.int .u64 10), .lit (.int .u64 100), .lit (.int .u64 1000), .lit (.int .u64 10000), .lit (.int .u64 100000), .lit (.int .u64 1000000), .lit (.int .u64 10000000), .lit (.int .u64 100000000), .lit (.int .u64 1000000000), .lit (.int .u64 10000000000), .lit (.int .u64 100000000000), .lit (.int .u64 1000000000000), .lit (.int .u64 10000000000000), .lit (.int .u64 100000000000000), .lit (.int .u64 1000000000000000), .lit (.int .u64 10000000000000000), .lit (.int .u64 100000000000000000), .lit (.int .u64 1000000000000000000), .lit (.int .u64 10000000000000000000)]
def laid_skiarea_script_forms {H : Type} : DataW H := .agg [.agg [.lit (.string []), .lit (.int .i64 0), .lit (.bool false)], .agg [.lit (.string [116, 105, 99, 107]), .lit (.int .i64 1), .lit (.bool false)], .agg [.lit (.string [111, 98, 115, 101, 114, 118, 101]), .lit (.int .i64 5), .lit (.bool false)], .agg [.lit (.string [108, 105, 102, 116]), .lit (.int .i64 5), .lit (.bool false)], .agg [.lit (.string [115, 101, 108, 108]), .lit (.int .i64 5), .lit (.bool false)], .agg [.lit (.string [112, 97, 115, 115]), .lit (.int .i64 2), .lit (.bool false)], .agg [.lit (.string [111, 117, 116]), .lit (.int .i64 2), .lit (.bool false)], .agg [.lit (.string [114, 101, 118, 111, 107, 101]), .lit (.int .i64 2), .lit (.bool false)], .agg [.lit (.string [117, 112, 108, 111, 97, 100]), .lit (.int .i64 1), .lit (.bool false)], .agg [.lit (.string [104, 101, 97, 114]), .lit (.int .i64 1), .lit (.bool false)], .agg [.lit (.string [100, 101, 108, 105, 118, 101, 114]), .lit (.int .i64 1), .lit (.bool false)], .agg [.lit (.string [108, 111, 115, 101]), .lit (.int .i64 1), .lit (.bool false)], .agg [.lit (.string [99, 111, 112, 121]), .lit (.int .i64 1), .lit (.bool false)], .agg [.lit (.string [115, 112, 108, 105, 116]), .lit (.int .i64 0), .lit (.bool true)], .agg [.lit (.string [99, 108, 111, 115, 101]), .lit (.int .i64 3), .lit (.bool false)], .agg [.lit (.string [114, 101, 108, 101, 97, 115, 101]), .lit (.int .i64 3), .lit (.bool false)], .agg [.lit (.string [115, 105, 103, 110]), .lit (.int .i64 3), .lit (.bool false)], .agg [.lit (.string [104, 97, 122, 97, 114, 100]), .lit (.int .i64 2), .lit (.bool false)], .agg [.lit (.string [114, 101, 109, 111, 118, 101]), .lit (.int .i64 1), .lit (.bool false)], .agg [.lit (.string [111, 112, 101, 110]), .lit (.int .i64 1), .lit (.bool false)], .agg [.lit (.string [115, 104, 117, 116]), .lit (.int .i64 1), .lit (.bool false)], .agg [.lit (.string [115, 101, 110, 100]), .lit (.int .i64 2), .lit (.bool false)], .agg [.lit (.string [103, 114, 111, 111, 109]), .lit (.int .i64 3), .lit (.bool false)], .agg [.lit (.string [119, 105, 110, 99, 104]), .lit (.int .i64 2), .lit (.bool true)], .agg [.lit (.string [105, 115, 115, 117, 101]), .lit (.int .i64 6), .lit (.bool true)], .agg [.lit (.string [112, 108, 97, 110]), .lit (.int .i64 5), .lit (.bool false)], .agg [.lit (.string [99, 108, 101, 97, 114]), .lit (.int .i64 1), .lit (.bool false)], .agg [.lit (.string [97, 114, 109]), .lit (.int .i64 2), .lit (.bool false)], .agg [.lit (.string [102, 105, 114, 101]), .lit (.int .i64 3), .lit (.bool false)], .agg [.lit (.string [101, 110, 100]), .lit (.int .i64 1), .lit (.bool false)], .agg [.lit (.string [97, 98, 111, 114, 116]), .lit (.int .i64 1), .lit (.bool false)], .agg [.lit (.string [103, 117, 110]), .lit (.int .i64 2), .lit (.bool false)], .agg [.lit (.string [115, 110, 111, 119]), .lit (.int .i64 1), .lit (.bool false)], .agg [.lit (.string [115, 119, 101, 101, 112]), .lit (.int .i64 0), .lit (.bool true)], .agg [.lit (.string [115, 119, 101, 112, 116]), .lit (.int .i64 3), .lit (.bool false)], .agg [.lit (.string [114, 101, 112, 111, 114, 116]), .lit (.int .i64 2), .lit (.bool false)], .agg [.lit (.string [106, 117, 100, 103, 101]), .lit (.int .i64 2), .lit (.bool false)], .agg [.lit (.string [103, 111]), .lit (.int .i64 2), .lit (.bool false)], .agg [.lit (.string [97, 114, 114, 105, 118, 101]), .lit (.int .i64 1), .lit (.bool false)], .agg [.lit (.string [108, 101, 97, 118, 101]), .lit (.int .i64 1), .lit (.bool false)], .agg [.lit (.string [100, 111, 110, 101]), .lit (.int .i64 2), .lit (.bool false)], .agg [.lit (.string [112, 101, 114, 105, 111, 100]), .lit (.int .i64 1), .lit (.bool false)], .agg [.lit (.string [99, 111, 117, 110, 116]), .lit (.int .i64 0), .lit (.bool false)], .agg [.lit (.string [115, 101, 116, 116, 108, 101]), .lit (.int .i64 0), .lit (.bool false)], .agg [.lit (.string [114, 101, 102, 117, 110, 100]), .lit (.int .i64 2), .lit (.bool false)]]

/-- 'skiarealaw60.ScriptParses': WHATEVER THE INPUT: true; the input reads as it did. -/
def scriptParsesSpec : ChangeSpec := { name := "scriptParses", fn := fun _ => fun
  | [d] => { results := [.lit (.bool true)], args := [d] }
  | _ => none }
def scriptParsesRow : OpenClaim := { program := "ytibcoiabdnbdjaadoor", sum := "bda21cbb27832ab846430d030c9beaf1c67d9af2f9ac39e07b72a65915fd9580", func := "skiarea/skiarealaw60.ScriptParses", spec := "scriptParses", inPlace := ["internal/bytealg.IndexByteString", "internal/bytealg.IndexString", "internal/abi.NoEscape"], unfollowed := true, recurses := true, named := ["internal/bytealg.MaxLen", "skiarea/script.forms", "internal/strconv.uint64pow10", "math/bits.deBruijn32tab", "math/bits.deBruijn64tab"], apart := false, laid := [("math/bits.deBruijn32tab", laid_math_bits_deBruijn32tab), ("math/bits.deBruijn64tab", laid_math_bits_deBruijn64tab), ("internal/strconv.uint64pow10", laid_internal_strconv_uint64pow10), ("skiarea/script.forms", laid_skiarea_script_forms)] }
def ScriptParsesSaid : Prop := scriptParsesRow.holds Tryd.pinned (OpenSpec.ofChange scriptParsesSpec)

/-- ITS FALSE NEIGHBOUR: 'it returns false'. Refute it at one input. -/
def scriptParsesWrong : ChangeSpec := { name := "scriptParses", fn := fun _ => fun
  | [d] => { results := [.lit (.bool false)], args := [d] }
  | _ => none }
def ScriptParsesWrongFalsely : Prop := scriptParsesRow.holds Tryd.pinned (OpenSpec.ofChange scriptParsesWrong)

/-- 'skiarealaw60.ScriptReplies': WHATEVER THE INPUT: true; the input reads as it did. -/
def scriptRepliesSpec : ChangeSpec := { name := "scriptReplies", fn := fun _ => fun
  | [d] => { results := [.lit (.bool true)], args := [d] }
  | _ => none }
def scriptRepliesRow : OpenClaim := { program := "ytibcoiabdnbdjaadoor", sum := "bda21cbb27832ab846430d030c9beaf1c67d9af2f9ac39e07b72a65915fd9580", func := "skiarea/skiarealaw60.ScriptReplies", spec := "scriptReplies", inPlace := ["internal/bytealg.IndexByteString", "internal/bytealg.IndexString", "internal/abi.NoEscape"], unfollowed := true, recurses := true, named := ["internal/bytealg.MaxLen", "skiarea/script.forms", "internal/strconv.uint64pow10", "math/bits.deBruijn32tab", "math/bits.deBruijn64tab"], apart := false, laid := [("math/bits.deBruijn32tab", laid_math_bits_deBruijn32tab), ("math/bits.deBruijn64tab", laid_math_bits_deBruijn64tab), ("internal/strconv.uint64pow10", laid_internal_strconv_uint64pow10), ("skiarea/script.forms", laid_skiarea_script_forms)] }
def ScriptRepliesSaid : Prop := scriptRepliesRow.holds Tryd.pinned (OpenSpec.ofChange scriptRepliesSpec)

/-- ITS FALSE NEIGHBOUR: 'it returns false'. Refute it at one input. -/
def scriptRepliesWrong : ChangeSpec := { name := "scriptReplies", fn := fun _ => fun
  | [d] => { results := [.lit (.bool false)], args := [d] }
  | _ => none }
def ScriptRepliesWrongFalsely : Prop := scriptRepliesRow.holds Tryd.pinned (OpenSpec.ofChange scriptRepliesWrong)

/-- 'skiarealaw60.ScriptParts': WHATEVER THE INPUT: true; the input reads as it did. -/
def scriptPartsSpec : ChangeSpec := { name := "scriptParts", fn := fun _ => fun
  | [d1, d2] => { results := [.lit (.bool true)], args := [d1, d2] }
  | _ => none }
def scriptPartsRow : OpenClaim := { program := "ytibcoiabdnbdjaadoor", sum := "bda21cbb27832ab846430d030c9beaf1c67d9af2f9ac39e07b72a65915fd9580", func := "skiarea/skiarealaw60.ScriptParts", spec := "scriptParts", inPlace := ["internal/bytealg.IndexByteString", "internal/bytealg.IndexString", "internal/abi.NoEscape"], unfollowed := true, recurses := true, named := ["internal/bytealg.MaxLen", "skiarea/script.forms", "internal/strconv.uint64pow10", "math/bits.deBruijn32tab", "math/bits.deBruijn64tab"], apart := false, laid := [("math/bits.deBruijn32tab", laid_math_bits_deBruijn32tab), ("math/bits.deBruijn64tab", laid_math_bits_deBruijn64tab), ("internal/strconv.uint64pow10", laid_internal_strconv_uint64pow10), ("skiarea/script.forms", laid_skiarea_script_forms)] }
def ScriptPartsSaid : Prop := scriptPartsRow.holds Tryd.pinned (OpenSpec.ofChange scriptPartsSpec)

/-- ITS FALSE NEIGHBOUR: 'it returns false'. Refute it at one input. -/
def scriptPartsWrong : ChangeSpec := { name := "scriptParts", fn := fun _ => fun
  | [d1, d2] => { results := [.lit (.bool false)], args := [d1, d2] }
  | _ => none }
def ScriptPartsWrongFalsely : Prop := scriptPartsRow.holds Tryd.pinned (OpenSpec.ofChange scriptPartsWrong)

/-- 'skiarealaw60.ScriptPrints': WHATEVER THE INPUT: true; the input reads as it did. -/
def scriptPrintsSpec : ChangeSpec := { name := "scriptPrints", fn := fun _ => fun
  | [d] => { results := [.lit (.bool true)], args := [d] }
  | _ => none }
def scriptPrintsRow : OpenClaim := { program := "ytibcoiabdnbdjaadoor", sum := "bda21cbb27832ab846430d030c9beaf1c67d9af2f9ac39e07b72a65915fd9580", func := "skiarea/skiarealaw60.ScriptPrints", spec := "scriptPrints", inPlace := ["internal/bytealg.IndexByteString", "internal/bytealg.IndexString", "internal/abi.NoEscape"], unfollowed := true, recurses := true, named := ["internal/bytealg.MaxLen", "skiarea/script.forms", "internal/strconv.uint64pow10", "math/bits.deBruijn32tab", "math/bits.deBruijn64tab"], apart := false, laid := [("math/bits.deBruijn32tab", laid_math_bits_deBruijn32tab), ("math/bits.deBruijn64tab", laid_math_bits_deBruijn64tab), ("internal/strconv.uint64pow10", laid_internal_strconv_uint64pow10), ("skiarea/script.forms", laid_skiarea_script_forms)] }
def ScriptPrintsSaid : Prop := scriptPrintsRow.holds Tryd.pinned (OpenSpec.ofChange scriptPrintsSpec)

/-- ITS FALSE NEIGHBOUR: 'it returns false'. Refute it at one input. -/
def scriptPrintsWrong : ChangeSpec := { name := "scriptPrints", fn := fun _ => fun
  | [d] => { results := [.lit (.bool false)], args := [d] }
  | _ => none }
def ScriptPrintsWrongFalsely : Prop := scriptPrintsRow.holds Tryd.pinned (OpenSpec.ofChange scriptPrintsWrong)

/-- 'skiarealaw60.ScriptBack': WHATEVER THE INPUT: true; the input reads as it did. -/
def scriptBackSpec : ChangeSpec := { name := "scriptBack", fn := fun _ => fun
  | [d] => { results := [.lit (.bool true)], args := [d] }
  | _ => none }
def scriptBackRow : OpenClaim := { program := "ytibcoiabdnbdjaadoor", sum := "bda21cbb27832ab846430d030c9beaf1c67d9af2f9ac39e07b72a65915fd9580", func := "skiarea/skiarealaw60.ScriptBack", spec := "scriptBack", inPlace := ["internal/bytealg.IndexByteString", "internal/bytealg.IndexString", "internal/abi.NoEscape"], unfollowed := true, recurses := true, named := ["internal/bytealg.MaxLen", "skiarea/script.forms", "internal/strconv.uint64pow10", "math/bits.deBruijn32tab", "math/bits.deBruijn64tab"], apart := false, laid := [("math/bits.deBruijn32tab", laid_math_bits_deBruijn32tab), ("math/bits.deBruijn64tab", laid_math_bits_deBruijn64tab), ("internal/strconv.uint64pow10", laid_internal_strconv_uint64pow10), ("skiarea/script.forms", laid_skiarea_script_forms)] }
def ScriptBackSaid : Prop := scriptBackRow.holds Tryd.pinned (OpenSpec.ofChange scriptBackSpec)

/-- ITS FALSE NEIGHBOUR: 'it returns false'. Refute it at one input. -/
def scriptBackWrong : ChangeSpec := { name := "scriptBack", fn := fun _ => fun
  | [d] => { results := [.lit (.bool false)], args := [d] }
  | _ => none }
def ScriptBackWrongFalsely : Prop := scriptBackRow.holds Tryd.pinned (OpenSpec.ofChange scriptBackWrong)

/-- 'skiarealaw60.ScriptLines': WHATEVER THE INPUT: true; the input reads as it did. -/
def scriptLinesSpec : ChangeSpec := { name := "scriptLines", fn := fun _ => fun
  | [d] => { results := [.lit (.bool true)], args := [d] }
  | _ => none }
def scriptLinesRow : OpenClaim := { program := "ytibcoiabdnbdjaadoor", sum := "bda21cbb27832ab846430d030c9beaf1c67d9af2f9ac39e07b72a65915fd9580", func := "skiarea/skiarealaw60.ScriptLines", spec := "scriptLines", inPlace := ["internal/bytealg.IndexByteString", "internal/bytealg.IndexString", "internal/abi.NoEscape"], unfollowed := true, recurses := true, named := ["internal/bytealg.MaxLen", "skiarea/script.forms", "internal/strconv.uint64pow10", "math/bits.deBruijn32tab", "math/bits.deBruijn64tab"], apart := false, laid := [("math/bits.deBruijn32tab", laid_math_bits_deBruijn32tab), ("math/bits.deBruijn64tab", laid_math_bits_deBruijn64tab), ("internal/strconv.uint64pow10", laid_internal_strconv_uint64pow10), ("skiarea/script.forms", laid_skiarea_script_forms)] }
def ScriptLinesSaid : Prop := scriptLinesRow.holds Tryd.pinned (OpenSpec.ofChange scriptLinesSpec)

/-- ITS FALSE NEIGHBOUR: 'it returns false'. Refute it at one input. -/
def scriptLinesWrong : ChangeSpec := { name := "scriptLines", fn := fun _ => fun
  | [d] => { results := [.lit (.bool false)], args := [d] }
  | _ => none }
def ScriptLinesWrongFalsely : Prop := scriptLinesRow.holds Tryd.pinned (OpenSpec.ofChange scriptLinesWrong)

/- THE SECOND FORM. 'bulk': how many values and letters a reading holds, each counted each time it is reached (what is shared counts as often as it is met; a slice's spare places count too). A statement '..UptoSaid' is the law's where the arguments, and the package variables that the reading takes, are together of bulk at most 1048576: NARROWER than '..Said'. Prove '..Said' where nothing that the law and all that it calls make is longer than what came in: it says more and counts as full. Else prove '..UptoSaid'. A law counts once. -/
mutual
def uptoBulk {H : Type} : DataW H → Nat
  | .lit (.string bytes) => bytes.length + 1
  | .lit _ => 1
  | .nil => 1
  | .ptr d => uptoBulk d + 1
  | .slice elems spare => uptoBulkAll elems + uptoBulkAll spare + 1
  | .agg parts => uptoBulkAll parts + 1
  | .iface _ d => uptoBulk d + 1
  | .map entries => uptoBulkEntries entries + 1
  | .held _ => 1
def uptoBulkAll {H : Type} : List (DataW H) → Nat
  | [] => 0
  | d :: r => uptoBulk d + uptoBulkAll r
def uptoBulkEntries {H : Type} : List (Lit × DataW H) → Nat
  | [] => 0
  | x :: r => uptoBulkEntry x + uptoBulkEntries r
def uptoBulkEntry {H : Type} : Lit × DataW H → Nat
  | (.string bytes, d) => bytes.length + uptoBulk d + 1
  | (_, d) => uptoBulk d + 1
 end
def uptoSmall : (H : Type) → List (DataW H) → Bool := fun _ ds => decide (uptoBulkAll ds ≤ 1048576)
def OpenSpec.upto (s : _root_.Go.ChangeSpec) : _root_.Go.OpenSpec := { _root_.Go.OpenSpec.ofChange s with cond := some uptoSmall }

/-- 'skiarealaw60.ScriptParses', WHERE WHAT IT READS IS OF BULK AT MOST 1048576: true; the input reads as it did. -/
def scriptParsesUptoRow : OpenClaim := { program := "ytibcoiabdnbdjaadoor", sum := "bda21cbb27832ab846430d030c9beaf1c67d9af2f9ac39e07b72a65915fd9580", func := "skiarea/skiarealaw60.ScriptParses", spec := "scriptParses", inPlace := ["internal/bytealg.IndexByteString", "internal/bytealg.IndexString", "internal/abi.NoEscape"], unfollowed := true, recurses := true, named := ["internal/bytealg.MaxLen", "skiarea/script.forms", "internal/strconv.uint64pow10", "math/bits.deBruijn32tab", "math/bits.deBruijn64tab"], apart := false, laid := [("math/bits.deBruijn32tab", laid_math_bits_deBruijn32tab), ("math/bits.deBruijn64tab", laid_math_bits_deBruijn64tab), ("internal/strconv.uint64pow10", laid_internal_strconv_uint64pow10), ("skiarea/script.forms", laid_skiarea_script_forms)], narrowed := true }
def ScriptParsesUptoSaid : Prop := scriptParsesUptoRow.holds Tryd.pinned (OpenSpec.upto scriptParsesSpec)

/-- 'skiarealaw60.ScriptReplies', WHERE WHAT IT READS IS OF BULK AT MOST 1048576: true; the input reads as it did. -/
def scriptRepliesUptoRow : OpenClaim := { program := "ytibcoiabdnbdjaadoor", sum := "bda21cbb27832ab846430d030c9beaf1c67d9af2f9ac39e07b72a65915fd9580", func := "skiarea/skiarealaw60.ScriptReplies", spec := "scriptReplies", inPlace := ["internal/bytealg.IndexByteString", "internal/bytealg.IndexString", "internal/abi.NoEscape"], unfollowed := true, recurses := true, named := ["internal/bytealg.MaxLen", "skiarea/script.forms", "internal/strconv.uint64pow10", "math/bits.deBruijn32tab", "math/bits.deBruijn64tab"], apart := false, laid := [("math/bits.deBruijn32tab", laid_math_bits_deBruijn32tab), ("math/bits.deBruijn64tab", laid_math_bits_deBruijn64tab), ("internal/strconv.uint64pow10", laid_internal_strconv_uint64pow10), ("skiarea/script.forms", laid_skiarea_script_forms)], narrowed := true }
def ScriptRepliesUptoSaid : Prop := scriptRepliesUptoRow.holds Tryd.pinned (OpenSpec.upto scriptRepliesSpec)

/-- 'skiarealaw60.ScriptParts', WHERE WHAT IT READS IS OF BULK AT MOST 1048576: true; the input reads as it did. -/
def scriptPartsUptoRow : OpenClaim := { program := "ytibcoiabdnbdjaadoor", sum := "bda21cbb27832ab846430d030c9beaf1c67d9af2f9ac39e07b72a65915fd9580", func := "skiarea/skiarealaw60.ScriptParts", spec := "scriptParts", inPlace := ["internal/bytealg.IndexByteString", "internal/bytealg.IndexString", "internal/abi.NoEscape"], unfollowed := true, recurses := true, named := ["internal/bytealg.MaxLen", "skiarea/script.forms", "internal/strconv.uint64pow10", "math/bits.deBruijn32tab", "math/bits.deBruijn64tab"], apart := false, laid := [("math/bits.deBruijn32tab", laid_math_bits_deBruijn32tab), ("math/bits.deBruijn64tab", laid_math_bits_deBruijn64tab), ("internal/strconv.uint64pow10", laid_internal_strconv_uint64pow10), ("skiarea/script.forms", laid_skiarea_script_forms)], narrowed := true }
def ScriptPartsUptoSaid : Prop := scriptPartsUptoRow.holds Tryd.pinned (OpenSpec.upto scriptPartsSpec)

/-- 'skiarealaw60.ScriptPrints', WHERE WHAT IT READS IS OF BULK AT MOST 1048576: true; the input reads as it did. -/
def scriptPrintsUptoRow : OpenClaim := { program := "ytibcoiabdnbdjaadoor", sum := "bda21cbb27832ab846430d030c9beaf1c67d9af2f9ac39e07b72a65915fd9580", func := "skiarea/skiarealaw60.ScriptPrints", spec := "scriptPrints", inPlace := ["internal/bytealg.IndexByteString", "internal/bytealg.IndexString", "internal/abi.NoEscape"], unfollowed := true, recurses := true, named := ["internal/bytealg.MaxLen", "skiarea/script.forms", "internal/strconv.uint64pow10", "math/bits.deBruijn32tab", "math/bits.deBruijn64tab"], apart := false, laid := [("math/bits.deBruijn32tab", laid_math_bits_deBruijn32tab), ("math/bits.deBruijn64tab", laid_math_bits_deBruijn64tab), ("internal/strconv.uint64pow10", laid_internal_strconv_uint64pow10), ("skiarea/script.forms", laid_skiarea_script_forms)], narrowed := true }
def ScriptPrintsUptoSaid : Prop := scriptPrintsUptoRow.holds Tryd.pinned (OpenSpec.upto scriptPrintsSpec)

/-- 'skiarealaw60.ScriptBack', WHERE WHAT IT READS IS OF BULK AT MOST 1048576: true; the input reads as it did. -/
def scriptBackUptoRow : OpenClaim := { program := "ytibcoiabdnbdjaadoor", sum := "bda21cbb27832ab846430d030c9beaf1c67d9af2f9ac39e07b72a65915fd9580", func := "skiarea/skiarealaw60.ScriptBack", spec := "scriptBack", inPlace := ["internal/bytealg.IndexByteString", "internal/bytealg.IndexString", "internal/abi.NoEscape"], unfollowed := true, recurses := true, named := ["internal/bytealg.MaxLen", "skiarea/script.forms", "internal/strconv.uint64pow10", "math/bits.deBruijn32tab", "math/bits.deBruijn64tab"], apart := false, laid := [("math/bits.deBruijn32tab", laid_math_bits_deBruijn32tab), ("math/bits.deBruijn64tab", laid_math_bits_deBruijn64tab), ("internal/strconv.uint64pow10", laid_internal_strconv_uint64pow10), ("skiarea/script.forms", laid_skiarea_script_forms)], narrowed := true }
def ScriptBackUptoSaid : Prop := scriptBackUptoRow.holds Tryd.pinned (OpenSpec.upto scriptBackSpec)

/-- 'skiarealaw60.ScriptLines', WHERE WHAT IT READS IS OF BULK AT MOST 1048576: true; the input reads as it did. -/
def scriptLinesUptoRow : OpenClaim := { program := "ytibcoiabdnbdjaadoor", sum := "bda21cbb27832ab846430d030c9beaf1c67d9af2f9ac39e07b72a65915fd9580", func := "skiarea/skiarealaw60.ScriptLines", spec := "scriptLines", inPlace := ["internal/bytealg.IndexByteString", "internal/bytealg.IndexString", "internal/abi.NoEscape"], unfollowed := true, recurses := true, named := ["internal/bytealg.MaxLen", "skiarea/script.forms", "internal/strconv.uint64pow10", "math/bits.deBruijn32tab", "math/bits.deBruijn64tab"], apart := false, laid := [("math/bits.deBruijn32tab", laid_math_bits_deBruijn32tab), ("math/bits.deBruijn64tab", laid_math_bits_deBruijn64tab), ("internal/strconv.uint64pow10", laid_internal_strconv_uint64pow10), ("skiarea/script.forms", laid_skiarea_script_forms)], narrowed := true }
def ScriptLinesUptoSaid : Prop := scriptLinesUptoRow.holds Tryd.pinned (OpenSpec.upto scriptLinesSpec)

end Rows
end Go.Proofs.YtibcoiabdnbdjaaDoor
