/- The drive of a lift (layer 14): each function of the program and of the reference returns what its plain function says. Conditions: a right motor and a valid drive where the text says so. -/
import Derived.Test.YtjlhngfmghipoaaDrv2
import Derived.IntWalk
namespace Go.Proofs.Ytjlhngfmghipoaa
open Go.Am Go.Proofs
attribute [local irreducible] br

theorem wr {x : Int} (h1 : -4611686018427387904 ≤ x) (h2 : x ≤ 4611686018427387904) : IntKind.wrap IntKind.i64 x = x := IntWalk.i64_in x ⟨by omega, by omega⟩

theorem within_iff {n a b : Int} : within n a b = true ↔ a ≤ n ∧ n ≤ b := by simp [within]
theorem right_b {m : Motor} (h : right m = true) : 500 ≤ m.mx ∧ m.mx ≤ 12000 ∧ 50 ≤ m.up ∧ m.up ≤ 2000 ∧ 50 ≤ m.dn ∧ m.dn ≤ 2000 ∧ m.dn ≤ m.st ∧ m.st ≤ 5000 := by
  simp only [right, Bool.and_eq_true, within_iff] at h
  omega
theorem valid_b {m : Motor} {d : Drive} (h : valid m d = true) : 0 ≤ d.st ∧ d.st ≤ 3 ∧ 0 ≤ d.sp ∧ d.sp ≤ m.mx ∧ 0 ≤ d.mv ∧ d.mv ≤ 1125899906842624 ∧ (d.st = 0 → d.sp = 0) ∧ (d.st = 1 → 1 ≤ d.tg ∧ d.tg ≤ m.mx) ∧ (d.st ≠ 1 → d.tg = 0) := by
  simp only [valid, Bool.and_eq_true, within_iff, Bool.or_eq_true, bne_iff_ne, beq_iff_eq] at h
  obtain ⟨h1, h2, h3, h4, h5⟩ := h
  refine ⟨h1.1, h1.2, h2.1, h2.2, h3.1, h3.2, fun e => ?_, fun e => ?_, fun e => ?_⟩
  · rcases h4 with h4 | h4
    · exact absurd e h4
    · exact h4
  · rw [if_pos e] at h5; exact within_iff.1 h5
  · rw [if_neg e] at h5; simpa using h5
theorem valid_mk {m : Motor} {d : Drive} (h1 : 0 ≤ d.st ∧ d.st ≤ 3) (h2 : 0 ≤ d.sp ∧ d.sp ≤ m.mx) (h3 : 0 ≤ d.mv ∧ d.mv ≤ 1125899906842624) (h4 : d.st = 0 → d.sp = 0) (h5 : d.st = 1 → 1 ≤ d.tg ∧ d.tg ≤ m.mx) (h6 : d.st ≠ 1 → d.tg = 0) : valid m d = true := by
  simp only [valid, Bool.and_eq_true, within_iff, Bool.or_eq_true, bne_iff_ne, beq_iff_eq]
  refine ⟨h1, h2, h3, ?_, ?_⟩
  · by_cases e : d.st = 0
    · exact .inr (h4 e)
    · exact .inl e
  · by_cases e : d.st = 1
    · rw [if_pos e]; exact within_iff.2 (h5 e)
    · rw [if_neg e]; simpa using h6 e

theorem within_den (n a b : Int) : Den Try.prog 30 [I n, I a, I b] (Bo (within n a b)) := by
  refine en_within _ _ _ _ ?_
  rw [vc_within]
  refine br_intro (fun h => ?_) (fun h => ?_) <;> simp [within, h]

theorem dRight_den (m : Motor) : Den Try.prog 11 [m.av] (Bo (right m)) := by
  refine en_dRight _ _ ?_
  rw [vc_dRight]
  refine ⟨within_den _ _ _, br_intro (fun h1 => ⟨within_den _ _ _, br_intro (fun h2 => ⟨within_den _ _ _, br_intro (fun h3 => ⟨within_den _ _ _, ?_⟩) (fun h3 => ?_)⟩) (fun h2 => ?_)⟩) (fun h1 => ?_)⟩ <;> simp [right, *]
theorem rRight_den (m : Motor) : Den Try.prog 12 [m.av] (Bo (right m)) := by
  refine en_rRight _ _ ?_
  rw [vc_rRight]
  repeat' (refine br_intro (fun _ => ?_) (fun _ => ?_))
  all_goals simp_all [right, within]
  all_goals omega
theorem dValid_den (m : Motor) (d : Drive) : Den Try.prog 13 [m.av, d.av] (Bo (valid m d)) := by
  refine en_dValid _ _ _ ?_
  rw [vc_dValid]
  repeat' first | (refine br_intro (fun _ => ?_) (fun _ => ?_)) | (refine And.intro (within_den _ _ _) ?_)
  all_goals simp_all [valid]
theorem rValid_den (m : Motor) (d : Drive) : Den Try.prog 14 [m.av, d.av] (Bo (valid m d)) := by
  refine en_rValid _ _ _ ?_
  rw [vc_rValid]
  repeat' (refine br_intro (fun _ => ?_) (fun _ => ?_))
  all_goals simp_all [valid, within]
  all_goals try omega
theorem lvalid_den (m : Motor) (d : Drive) : Den Try.prog 15 [m.av, d.av] (Bo (right m && valid m d)) := by
  refine en_lvalid _ _ _ ?_
  rw [vc_lvalid]
  refine ⟨rRight_den m, br_intro (fun h => ⟨rValid_den m d, ?_⟩) (fun h => ?_)⟩ <;> simp [h]
theorem dStart_den (m : Motor) (d : Drive) (t : Int) : Den Try.prog 16 [m.av, d.av, I t] (two (start m d t).1 (start m d t).2) := by
  refine en_dStart _ _ _ _ ?_
  rw [vc_dStart]
  repeat' first | (refine br_intro (fun _ => ?_) (fun _ => ?_)) | (refine And.intro (within_den _ _ _) ?_)
  all_goals simp_all [start, two, zeroD]
theorem rStart_den (m : Motor) (d : Drive) (t : Int) : Den Try.prog 17 [m.av, d.av, I t] (two (start m d t).1 (start m d t).2) := by
  refine en_rStart _ _ _ _ ?_
  rw [vc_rStart]
  repeat' (refine br_intro (fun _ => ?_) (fun _ => ?_))
  all_goals simp_all [start, two, zeroD, within]
  all_goals split <;> simp_all <;> omega
theorem dHalt_den (m : Motor) (d : Drive) : Den Try.prog 20 [m.av, d.av] (oneD (halt d)) := by
  refine en_dHalt _ _ _ ?_
  rw [vc_dHalt]
  refine br_intro (fun _ => ?_) (fun _ => ?_) <;> simp_all [halt, oneD]
theorem rHalt_den (m : Motor) (d : Drive) : Den Try.prog 21 [m.av, d.av] (oneD (halt d)) := by
  refine en_rHalt _ _ _ ?_
  rw [vc_rHalt]
  refine br_intro (fun _ => ?_) (fun _ => ?_) <;> simp_all [halt, oneD]
theorem dEmer_den (m : Motor) (d : Drive) : Den Try.prog 22 [m.av, d.av] (oneD (emer d)) := by
  refine en_dEmer _ _ _ ?_
  rw [vc_dEmer]
  rfl
theorem rEmer_den (m : Motor) (d : Drive) : Den Try.prog 23 [m.av, d.av] (oneD (emer d)) := by
  refine en_rEmer _ _ _ ?_
  rw [vc_rEmer]
  rfl
theorem dReset_den (m : Motor) (d : Drive) : Den Try.prog 18 [m.av, d.av] (two (rst d).1 (rst d).2) := by
  refine en_dReset _ _ _ ?_
  rw [vc_dReset]
  refine br_intro (fun _ => ?_) (fun _ => br_intro (fun _ => ?_) (fun _ => ?_)) <;> simp_all [rst, two, zeroD]
theorem rReset_den (m : Motor) (d : Drive) : Den Try.prog 19 [m.av, d.av] (two (rst d).1 (rst d).2) := by
  refine en_rReset _ _ _ ?_
  rw [vc_rReset]
  refine br_intro (fun _ => ?_) (fun _ => br_intro (fun _ => ?_) (fun _ => ?_)) <;> simp_all [rst, two, zeroD]
theorem motor_den : Den Try.prog 29 [] (.agg [I 5000, I 400, I 500, I 1500]) := by
  refine en_motor _ ?_
  rw [vc_motor]

/-- the numbers of a drive on its way -/
structure Bd (m : Motor) (d : Drive) : Prop where
  r : right m = true
  sp : 0 ≤ d.sp ∧ d.sp ≤ 12000
  tg : 0 ≤ d.tg ∧ d.tg ≤ 12000
  mv : 0 ≤ d.mv ∧ d.mv ≤ 1125899906842624
theorem Bd.of {m : Motor} {d : Drive} (hr : right m = true) (hv : valid m d = true) : Bd m d := by
  have h1 := right_b hr
  have h2 := valid_b hv
  refine ⟨hr, by omega, ?_, by omega⟩
  by_cases e : d.st = 1
  · have := h2.2.2.2.2.2.2.2.1 e; omega
  · have := h2.2.2.2.2.2.2.2.2 e; omega
theorem next_le {m : Motor} {d : Drive} (h : Bd m d) : 0 ≤ next m d ∧ next m d ≤ 12000 := by
  have h1 := right_b h.r
  have h2 := h.sp
  have h3 := h.tg
  unfold next
  split
  · split <;> omega
  · split
    · omega
    · split <;> omega
theorem next_den (m : Motor) (d : Drive) (h : Bd m d) : Den Try.prog 31 [m.av, d.av] (I (next m d)) := by
  have h1 := right_b h.r
  have h2 := h.sp
  refine en_next _ _ _ ?_
  rw [vc_next, wr (by omega) (by omega), wr (by omega) (by omega), wr (by omega) (by omega)]
  repeat' (refine br_intro (fun _ => ?_) (fun _ => ?_))
  all_goals simp_all [next]
  all_goals omega
theorem speed_den (m : Motor) (d : Drive) (h : Bd m d) : Den Try.prog 32 [m.av, d.av] (I (next m d)) := by
  have h1 := right_b h.r
  have h2 := h.sp
  refine en_speed _ _ _ ?_
  rw [vc_speed, wr (by omega) (by omega), wr (by omega) (by omega), wr (by omega) (by omega)]
  repeat' (refine br_intro (fun _ => ?_) (fun _ => ?_))
  all_goals simp_all [next]
  all_goals omega
end Go.Proofs.Ytjlhngfmghipoaa
