/- The drive of a lift (layer 14): the laws DriveRights, DriveStarts, DriveSteps as contracts of their functions. No condition. -/
import Derived.Test.YtjlhngfmghipoaaDrv4
import Derived.Test.YtjlhngfmghipoaaAmd
namespace Go.Proofs.Ytjlhngfmghipoaa
open Go.Am Go.Proofs
attribute [local irreducible] br

theorem wf64 {z : Int} (h : (Lit.int .i64 z).wf = true) : -9223372036854775808 ≤ z ∧ z ≤ 9223372036854775807 := by
  simpa [Lit.wf, IntKind.min, IntKind.max, IntKind.signed, IntKind.bits] using h
theorem ty_int {av : AV} (h : TyV Try.prog 3 av) : ∃ z, av = I z ∧ -9223372036854775808 ≤ z ∧ z ≤ 9223372036854775807 := by
  obtain ⟨cells, h1, h2⟩ := h
  obtain ⟨z, rfl, hw⟩ := h1.inv_int Try.underlying3
  rcases h2 with ⟨h2, _⟩ | ⟨_, c, hc, rfl⟩
  · cases (show aggB Try.prog 3 = false by kernel_rfl) ▸ h2
  · simp at hc; subst hc; exact ⟨z, rfl, wf64 hw⟩
theorem four_ints {t : TypeId} {f0 f1 f2 f3 : Field} {ts : List Tree} (ht : Try.prog.underlying t = some (.struct #[f0, f1, f2, f3])) (hc : Try.prog.cellsOf t = 4) (h : TyT Try.prog t ts)
    (h0 : f0.type = 3 ∧ f0.offset = 0) (h1 : f1.type = 3 ∧ f1.offset = 1) (h2 : f2.type = 3 ∧ f2.offset = 2) (h3 : f3.type = 3 ∧ f3.offset = 3) : ∃ a b c d : Int, ts = [.lit (.int .i64 a), .lit (.int .i64 b), .lit (.int .i64 c), .lit (.int .i64 d)] := by
  obtain ⟨hl, h⟩ := h.inv_struct ht
  rw [hc] at hl
  have c1 : Try.prog.cellsOf 3 = 1 := by kernel_rfl
  match ts, hl with
  | [a, b, c, d], _ =>
    have e0 := h 0 f0 rfl
    have e1 := h 1 f1 rfl
    have e2 := h 2 f2 rfl
    have e3 := h 3 f3 rfl
    rw [h0.1, h0.2, c1] at e0
    rw [h1.1, h1.2, c1] at e1
    rw [h2.1, h2.2, c1] at e2
    rw [h3.1, h3.2, c1] at e3
    obtain ⟨z0, q0, _⟩ := e0.inv_int Try.underlying3
    obtain ⟨z1, q1, _⟩ := e1.inv_int Try.underlying3
    obtain ⟨z2, q2, _⟩ := e2.inv_int Try.underlying3
    obtain ⟨z3, q3, _⟩ := e3.inv_int Try.underlying3
    simp at q0 q1 q2 q3
    subst q0; subst q1; subst q2; subst q3
    exact ⟨z0, z1, z2, z3, rfl⟩
theorem ty_motor {av : AV} (h : TyV Try.prog 23 av) : ∃ m : Motor, av = m.av := by
  obtain ⟨cells, h1, h2⟩ := h
  obtain ⟨a, b, c, d, rfl⟩ := four_ints Try.underlying23 (by kernel_rfl) h1 ⟨rfl, rfl⟩ ⟨rfl, rfl⟩ ⟨rfl, rfl⟩ ⟨rfl, rfl⟩
  rcases h2 with ⟨_, rfl⟩ | ⟨h2, _⟩
  · exact ⟨⟨a, b, c, d⟩, rfl⟩
  · cases (show aggB Try.prog 23 = true by kernel_rfl) ▸ h2
theorem ty_drive {av : AV} (h : TyV Try.prog 25 av) : ∃ d : Drive, av = d.av := by
  obtain ⟨cells, h1, h2⟩ := h
  obtain ⟨a, b, c, d, rfl⟩ := four_ints Try.underlying25 (by kernel_rfl) h1 ⟨rfl, rfl⟩ ⟨rfl, rfl⟩ ⟨rfl, rfl⟩ ⟨rfl, rfl⟩
  rcases h2 with ⟨_, rfl⟩ | ⟨h2, _⟩
  · exact ⟨⟨a, b, c, d⟩, rfl⟩
  · cases (show aggB Try.prog 25 = true by kernel_rfl) ▸ h2

theorem ty2 {P : Program} {t0 t1 : TypeId} {avs : List AV} (h : TyVs P [t0, t1] avs) : ∃ a b, avs = [a, b] ∧ TyV P t0 a ∧ TyV P t1 b := by
  match avs, h with
  | [a, b], h => exact ⟨a, b, rfl, h.1, h.2.1⟩
theorem ty3 {P : Program} {t0 t1 t2 : TypeId} {avs : List AV} (h : TyVs P [t0, t1, t2] avs) : ∃ a b c, avs = [a, b, c] ∧ TyV P t0 a ∧ TyV P t1 b ∧ TyV P t2 c := by
  match avs, h with
  | [a, b, c], h => exact ⟨a, b, c, rfl, h.1, h.2.1, h.2.2.1⟩

theorem rights_den (avs : List AV) (h : TyVs Try.prog [23, 25] avs) : Den Try.prog 3 avs (Bo true) := by
  obtain ⟨a, b, rfl, ha, hb⟩ := ty2 h
  obtain ⟨m, rfl⟩ := ty_motor ha
  obtain ⟨d, rfl⟩ := ty_drive hb
  refine en_rights m d _ ?_
  rw [vc_rights]
  refine ⟨alive_den, dRight_den m, rRight_den m, br_intro (fun _ => ⟨dValid_den m d, rValid_den m d, by simp⟩) (fun h => by simp at h)⟩
theorem starts_den (avs : List AV) (h : TyVs Try.prog [23, 25, 3] avs) : Den Try.prog 4 avs (Bo true) := by
  obtain ⟨a, b, c, rfl, ha, hb, hc⟩ := ty3 h
  obtain ⟨m, rfl⟩ := ty_motor ha
  obtain ⟨d, rfl⟩ := ty_drive hb
  obtain ⟨t, rfl, _⟩ := ty_int hc
  refine en_starts m d t _ ?_
  rw [vc_starts]
  refine ⟨alive_den, lvalid_den m d, br_intro (fun _ => rfl) (fun _ => ⟨dStart_den m d t, rStart_den m d t, dReset_den m d, rReset_den m d, ?_⟩)⟩
  simp only [beq_self_eq_true, Bool.and_self, br_true]
  exact ⟨dHalt_den m d, rHalt_den m d, dEmer_den m d, rEmer_den m d, trivial⟩
theorem steps_den (avs : List AV) (h : TyVs Try.prog [23, 25, 3] avs) : Den Try.prog 5 avs (Bo true) := by
  obtain ⟨a, b, c, rfl, ha, hb, hc⟩ := ty3 h
  obtain ⟨m, rfl⟩ := ty_motor ha
  obtain ⟨d, rfl⟩ := ty_drive hb
  obtain ⟨n, rfl, _⟩ := ty_int hc
  refine en_steps m d n _ ?_
  rw [vc_steps]
  refine ⟨alive_den, lvalid_den m d, br_intro (fun _ => rfl) (fun hv => ?_)⟩
  simp only [Bool.not_eq_false', Bool.and_eq_true] at hv
  refine ⟨dStep_den m d n hv.1 hv.2, rStep_den m d n hv.1 hv.2, ?_⟩
  simp only [beq_self_eq_true, Bool.and_self, br_true]
  exact ⟨dDist_den m d hv.1 hv.2, rDist_den m d hv.1 hv.2, trivial⟩
end Go.Proofs.Ytjlhngfmghipoaa
