/- The laid package variables, as plain lists. No condition. -/
import Derived.Test.YtibcoiabdnbdjaaDoorHnd
import Derived.Test.YtibcoiabdnbdjaaDoorTie
import Derived.LaidMore
import Derived.MakeChecks
import Derived.Stop.Joined
namespace Go.Proofs.YtibcoiabdnbdjaaDoor
open Go.Cm Go.Proofs Go.WideShapes Go.ChangeShapes
set_option maxRecDepth 100000
def laidV : List (String × DataW Unit) := [("math/bits.deBruijn32tab", Rows.laid_math_bits_deBruijn32tab), ("math/bits.deBruijn64tab", Rows.laid_math_bits_deBruijn64tab), ("internal/strconv.uint64pow10", Rows.laid_internal_strconv_uint64pow10), ("skiarea/script.forms", Rows.laid_skiarea_script_forms)]
theorem laidOut : laidOutB Tryd.prog = true := by kernel_rfl
theorem gName3 : Tryd.prog.globalNamed "math/bits.deBruijn32tab" = some 3 := by kernel_rfl
theorem gType3 : (Tryd.prog.globals[3]?).map (·.type) = some 94 := by kernel_rfl
theorem gName4 : Tryd.prog.globalNamed "math/bits.deBruijn64tab" = some 4 := by kernel_rfl
theorem gType4 : (Tryd.prog.globals[4]?).map (·.type) = some 95 := by kernel_rfl
theorem gName2 : Tryd.prog.globalNamed "internal/strconv.uint64pow10" = some 2 := by kernel_rfl
theorem gType2 : (Tryd.prog.globals[2]?).map (·.type) = some 90 := by kernel_rfl
theorem gName0 : Tryd.prog.globalNamed "skiarea/script.forms" = some 0 := by kernel_rfl
theorem gType0 : (Tryd.prog.globals[0]?).map (·.type) = some 61 := by kernel_rfl
theorem glob_of {W : World} (h : laidMetH Tryd.prog laidV W) : GlobOk W env0 nilB := by
  rw [MakeChecks.laidMetH_plain _ _ _ (by kernel_rfl)] at h
  obtain ⟨ps, ⟨g0, t0, cs0, f0, p0, q0, hg0, ht0, hv0, hd0, ⟨g1, t1, cs1, f1, p1, q1, hg1, ht1, hv1, hd1, ⟨g2, t2, cs2, f2, p2, q2, hg2, ht2, hv2, hd2, ⟨g3, t3, cs3, f3, p3, q3, hg3, ht3, hv3, hd3, _, _⟩, _⟩, _⟩, _⟩, _, _⟩ := h
  obtain rfl := Option.some.inj (gName3.symm.trans hg0)
  obtain rfl := Option.some.inj (gType3.symm.trans ht0)
  obtain ⟨a0, b0⟩ := grow_of (q := (⟨TI.t_u8, tab_3⟩ : Row)) (n := 20) (m := 5) (ks := (flatT Tryd.prog 20 94).getD []) laidOut gName3 hv0 hd0 (by kernel_rfl) (by kernel_rfl) (by kernel_rfl) rfl
  obtain rfl := Option.some.inj (gName4.symm.trans hg1)
  obtain rfl := Option.some.inj (gType4.symm.trans ht1)
  obtain ⟨a1, b1⟩ := grow_of (q := (⟨TI.t_u8, tab_4⟩ : Row)) (n := 20) (m := 5) (ks := (flatT Tryd.prog 20 95).getD []) laidOut gName4 hv1 hd1 (by kernel_rfl) (by kernel_rfl) (by kernel_rfl) rfl
  obtain rfl := Option.some.inj (gName2.symm.trans hg2)
  obtain rfl := Option.some.inj (gType2.symm.trans ht2)
  obtain ⟨a2, b2⟩ := grow_of (q := (⟨TI.t_u64, tab_2⟩ : Row)) (n := 20) (m := 5) (ks := (flatT Tryd.prog 20 90).getD []) laidOut gName2 hv2 hd2 (by kernel_rfl) (by kernel_rfl) (by kernel_rfl) rfl
  obtain rfl := Option.some.inj (gName0.symm.trans hg3)
  obtain rfl := Option.some.inj (gType0.symm.trans ht3)
  obtain ⟨a3, b3⟩ := grow_of (q := (⟨TI.t_form, tab_0⟩ : Row)) (n := 20) (m := 5) (ks := (flatT Tryd.prog 20 61).getD []) laidOut gName0 hv3 hd3 (by kernel_rfl) (by kernel_rfl) (by kernel_rfl) rfl
  intro g q hg
  have hg : globs g = some q := hg
  unfold globs at hg
  split at hg
  · injection hg with hg; subst hg; exact ⟨a0, ok_env0 _, b0⟩
  · injection hg with hg; subst hg; exact ⟨a1, ok_env0 _, b1⟩
  · injection hg with hg; subst hg; exact ⟨a2, ok_env0 _, b2⟩
  · injection hg with hg; subst hg; exact ⟨a3, ok_env0 _, b3⟩
  · cases hg
theorem door_met (os : Os) (args : Array Value) : laidMetH Tryd.prog laidV ((World.doorLaid Tryd.prog 400 os).forCall (fun _ _ => 0) ⟨#[], args, []⟩).memory :=
  laidMetH_of_parts3 (fuel := 8) (laidMet_of_run' 8 (by kernel_rfl) (by kernel_rfl)) (by kernel_rfl) (by kernel_rfl)
end Go.Proofs.YtibcoiabdnbdjaaDoor
