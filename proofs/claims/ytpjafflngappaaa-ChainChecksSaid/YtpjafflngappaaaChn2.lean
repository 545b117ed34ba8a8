/- The chain: the law ChainChecks in plain words. No condition. -/
import Derived.Test.YtpjafflngappaaaChn1
import Derived.Test.YtpjafflngappaaaCmp
namespace Go.Proofs.Ytpjafflngappaaa
open Go.Cm Go.Proofs
theorem t_ChainChecks : AllW (fun y => y = some true) [TI.t_Chain] (l16_ChainChecks 2000) := fun (c : Chain) _ => by
  show l16_ChainChecks 2000 c = some true
  unfold l16_ChainChecks
  rw [alive_ok, right_eq (by omega), rright_eq (by omega)]
  by_cases h : (c.Contacts.length : Int) > 50 <;> simp [h]
end Go.Proofs.Ytpjafflngappaaa
