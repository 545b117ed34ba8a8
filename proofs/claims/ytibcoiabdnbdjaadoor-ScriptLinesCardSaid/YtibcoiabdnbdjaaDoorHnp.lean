/- The library's functions that this program calls, as plain functions. No condition. -/
import Derived.Test.YtibcoiabdnbdjaaDoorSg
import Derived.Lib.ItoaNum
import Derived.Lib.Bytealg
namespace Go.Proofs.YtibcoiabdnbdjaaDoor
open Go.Cm Go.Proofs
set_option linter.unusedVariables false
def ixB (s sep : ByteArray) : Option Int := match sep.data.toList with
  | [c] => some (Lib.indexByte s.data.toList c)
  | _ => none
def stringslite_Index (N : Nat) (s sep : ByteArray) : Option Int := ixB s sep
def itoaB (z : Int) : ByteArray := ⟨(Lib.itoa z).toArray⟩
def strconv_Itoa (N : Nat) (z : Int) : Option ByteArray := bif decide (-9223372036854775808 ≤ z) && decide (z ≤ 9223372036854775807) then some (itoaB z) else none
end Go.Proofs.YtibcoiabdnbdjaaDoor
