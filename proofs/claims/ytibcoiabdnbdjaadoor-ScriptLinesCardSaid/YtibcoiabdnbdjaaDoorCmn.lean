/- The abstract machine, third state, part 23: helpers for the data types of one program. No condition. -/
import Derived.Test.YtibcoiabdnbdjaaDoorCmm
import Derived.KernelRfl
namespace Go.Cm
set_option linter.unusedSectionVars false

/-- a literal string -/
def bL (l : List Nat) : ByteArray := ⟨(l.map UInt8.ofNat).toArray⟩
section
variable {TI : Type} {Car : TI → Type}
def gi : TreeOf TI Car → Int
  | .lit (.int _ n) => n
  | _ => 0
def gb : TreeOf TI Car → Bool
  | .lit (.bool b) => b
  | _ => false
def gs : TreeOf TI Car → ByteArray
  | .lit (.string s) => s
  | _ => ⟨#[]⟩
def gl [DecidableEq TI] (e : TI) : TreeOf TI Car → List (Car e)
  | .sl q => if h : q.e = e then h ▸ q.l else []
  | _ => []
def tx (ts : List (TreeOf TI Car)) (i : Nat) : TreeOf TI Car := ts.getD i (.lit (.tuple #[]))
theorem fit_int [DecidableEq TI] {k : IntKind} {t : TreeOf TI Car} (h : fit1 (.int k) t = true) : .lit (.int k (gi t)) = t := by
  unfold fit1 at h
  split at h <;> first | (simp_all [gi]; done) | (cases h; done) | skip
theorem fit_bool [DecidableEq TI] {t : TreeOf TI Car} (h : fit1 .bool t = true) : .lit (.bool (gb t)) = t := by
  unfold fit1 at h
  split at h <;> first | (simp_all [gb]; done) | (cases h; done) | skip
theorem fit_str [DecidableEq TI] {t : TreeOf TI Car} (h : fit1 .str t = true) : .lit (.string (gs t)) = t := by
  unfold fit1 at h
  split at h <;> first | (simp_all [gs]; done) | (cases h; done) | skip
theorem fit_sl [DecidableEq TI] {e : TI} {t : TreeOf TI Car} (h : fit1 (.sl e) t = true) : .sl ⟨e, gl e t⟩ = t := by
  cases t with
  | lit v => cases v <;> cases h
  | sl q =>
    obtain ⟨e', l⟩ := q
    have h' : e = e' := of_decide_eq_true h
    subst h'
    simp [gl]
theorem fits_cons [DecidableEq TI] {k : LK TI} {ks : List (LK TI)} {ts : List (TreeOf TI Car)} (h : fits (k :: ks) ts = true) : ∃ t ts', ts = t :: ts' ∧ fit1 k t = true ∧ fits ks ts' = true := by
  cases ts with
  | nil => cases h
  | cons t ts =>
    simp only [fits, Bool.and_eq_true] at h
    exact ⟨t, ts, rfl, h.1, h.2⟩
theorem fits_nil [DecidableEq TI] {ts : List (TreeOf TI Car)} (h : fits ([] : List (LK TI)) ts = true) : ts = [] := by
  cases ts with
  | nil => rfl
  | cons => cases h
end
end Go.Cm
