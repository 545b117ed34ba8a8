/- The drive: whatever is done, it remains valid. No condition. -/
import Derived.Test.YtjlhngfmghipoaaFn2
import Derived.Test.YtjlhngfmghipoaaCmp
import Derived.Test.YtjlhngfmghipoaaCmq
namespace Go.Proofs.Ytjlhngfmghipoaa
open Go.Cm Go.Proofs

theorem alive_ok : l14_alive 5000 = some true := by kernel_rfl
structure Mot (m : Motor) : Prop where
  max : 500 ≤ m.Max ∧ m.Max ≤ 12000
  up : 50 ≤ m.Up ∧ m.Up ≤ 2000
  down : 50 ≤ m.Down ∧ m.Down ≤ 2000
  stop : m.Down ≤ m.Stop ∧ m.Stop ≤ 5000
structure Vd (m : Motor) (d : Drive) : Prop where
  st : 0 ≤ d.State ∧ d.State ≤ 3
  sp : 0 ≤ d.Speed ∧ d.Speed ≤ m.Max
  mv : 0 ≤ d.Moved ∧ d.Moved ≤ 1125899906842624
  s0 : d.State = 0 → d.Speed = 0
  s1 : d.State = 1 → 1 ≤ d.Target ∧ d.Target ≤ m.Max
  sn : d.State ≠ 1 → d.Target = 0
theorem within_eq (N : Nat) (x a b : Int) : drive_within N x a b = some (decide (a ≤ x) && decide (x ≤ b)) := by
  unfold drive_within
  by_cases h : a ≤ x <;> simp [h]
theorem valid_of (N : Nat) (m : Motor) (d : Drive) : ∃ b, l14_valid N m d = some b ∧ (b = true → Mot m ∧ Vd m d) := by
  unfold l14_valid r14_Right r14_Valid
  simp only [cond_and, cond_or, Option.bind_some]
  simp only [cond_some, Option.bind_some, Bool.cond_false_right]
  refine ⟨_, rfl, fun h => ?_⟩
  simp only [Bool.and_eq_true, decide_eq_true_eq, ge_iff_le] at h
  obtain ⟨⟨a1, a2, a3, a4, a5, a6, a7, a8⟩, h⟩ := h
  refine ⟨⟨⟨a1, a2⟩, ⟨a3, a4⟩, ⟨a5, a6⟩, ⟨a7, a8⟩⟩, ?_⟩
  by_cases e : d.State < 0 ∨ d.State > 3 ∨ d.Speed < 0 ∨ d.Speed > m.Max ∨ d.Moved < 0 ∨ d.Moved > 1125899906842624
  · simp [Bool.cond_eq_ite, e] at h
  · simp [Bool.cond_eq_ite] at h
    obtain ⟨h1, h2, h3⟩ := h
    refine ⟨by omega, by omega, by omega, fun h => h2.resolve_left (fun g => g h), fun h => ?_, fun h => ?_⟩
    · rw [if_pos h] at h3; simpa using h3
    · rw [if_neg h] at h3; simpa using h3
theorem valid_true (N : Nat) {m : Motor} {d : Drive} (v : Vd m d) : drive_Valid N m d = some true := by
  unfold drive_Valid
  simp only [within_eq, Option.bind_some]
  have h1 := v.st
  have h2 := v.sp
  have h3 := v.mv
  by_cases e1 : d.State = 1
  · have := v.s1 e1
    simp [h2, h3, e1, this]
  · have h5 := v.sn e1
    by_cases e0 : d.State = 0
    · have := v.s0 e0
      have hM : 0 ≤ m.Max := by omega
      simp [h3, e0, this, h5, hM]
    · simp [Bool.cond_eq_ite, h1, h2, h3, e0, e1, h5]

theorem next_eq (N : Nat) {m : Motor} {d : Drive} (hm : Mot m) (v : Vd m d) : ∃ s, drive_next N m d = some s ∧ 0 ≤ s ∧ s ≤ m.Max ∧ (d.State = 0 → s = 0) := by
  have h1 := v.st
  have h2 := v.sp
  obtain ⟨a1, a2, a3, a4⟩ := hm
  unfold drive_next
  rw [wrap64 (z := d.Speed + m.Up) (by omega) (by omega), wrap64 (z := d.Speed - m.Down) (by omega) (by omega), wrap64 (z := d.Speed - m.Stop) (by omega) (by omega)]
  by_cases e1 : d.State = 1
  · have := v.s1 e1
    by_cases e2 : d.Speed < d.Target
    · exact ⟨_, by simp [e1, e2]; rfl, by omega, by omega, by omega⟩
    · exact ⟨_, by simp [e1, e2]; rfl, by omega, by omega, by omega⟩
  · by_cases e2 : d.State = 2
    · exact ⟨_, by simp [e2]; rfl, by omega, by omega, by omega⟩
    · by_cases e3 : d.State = 3
      · exact ⟨_, by simp [e3]; rfl, by omega, by omega, by omega⟩
      · exact ⟨d.Speed, by simp [Bool.cond_eq_ite, e1, e2, e3], by omega, by omega, v.s0⟩
theorem step_ok {m : Motor} {d : Drive} (hm : Mot m) (v : Vd m d) (n : Int) : ∃ d', drive_Step 5000 m d n = some d' ∧ Vd m d' ∧ (d.State = 3 → d'.State = 3) := by
  unfold drive_Step
  obtain ⟨r, hr, hq⟩ : ∃ r, _ = some r ∧ (Vd m r ∧ (d.State = 3 → r.State = 3)) := whileF_inv (N := 5000) (s0 := ((0 : Int), d)) (body := fun (p3 : Int × Drive) =>
          bif decide (p3.fst < min (max n (0 : Int)) (3600 : Int)) then
            (drive_next 5000 m p3.snd).bind fun (r4 : Int) =>
              (bif p3.snd.State == (2 : Int) then some (r4 == (0 : Int)) else some false).bind fun (r5 : Bool) =>
                (bif r5 then
                      some
                        (Drive.mk (0 : Int) r4 p3.snd.Target
                          ((IntKind.i64.wrap (p3.snd.Moved + r4)).tmod (1125899906842625 : Int)))
                    else
                      some
                        (Drive.mk p3.snd.State r4 p3.snd.Target
                          ((IntKind.i64.wrap (p3.snd.Moved + r4)).tmod (1125899906842625 : Int)))).bind
                  fun (r6 : Drive) => some (Sum.inl (IntKind.i64.wrap (p3.fst + (1 : Int)), r6))
          else some (Sum.inr p3.snd)) (fun k s => s.1 = (k : Int) ∧ Vd m s.2 ∧ (d.State = 3 → s.2.State = 3)) (fun r => Vd m r ∧ (d.State = 3 → r.State = 3)) (min (max n 0) 3600).toNat ⟨rfl, v, fun h => h⟩ (fun k s hk hI => by
      obtain ⟨i, e⟩ := s
      obtain ⟨rfl, ve, h3⟩ := hI
      simp only at ve h3
      have h1 : decide ((k : Int) < min (max n 0) 3600) = true := by simp only [decide_eq_true_eq]; omega
      obtain ⟨s, hs, s1, s2, s3⟩ := next_eq 5000 hm ve
      have hmv := ve.mv
      have hmm := hm.max
      have hw : IntKind.i64.wrap (e.Moved + s) = e.Moved + s := wrap64 (by omega) (by omega)
      have hmod : 0 ≤ (e.Moved + s).tmod 1125899906842625 ∧ (e.Moved + s).tmod 1125899906842625 ≤ 1125899906842624 := by
        rw [Int.tmod_eq_emod_of_nonneg (by omega)]
        omega
      left
      simp only [h1, cond_true, hs, Option.bind_some, hw, wrapN (show k < 9223372036854775807 by omega)]
      by_cases e2 : e.State = 2
      · by_cases e3 : s = 0
        · refine ⟨((k : Int) + 1, ⟨0, s, e.Target, (e.Moved + s).tmod 1125899906842625⟩), by simp [e2, e3], by simp, ⟨by simp, ⟨s1, s2⟩, hmod, fun _ => e3, fun h => by simp at h, fun _ => ve.sn (by omega)⟩, fun h => by have := h3 h; omega⟩
        · refine ⟨((k : Int) + 1, ⟨e.State, s, e.Target, (e.Moved + s).tmod 1125899906842625⟩), by simp [e2, Bool.cond_eq_ite, e3], by simp, ⟨ve.st, ⟨s1, s2⟩, hmod, s3, ve.s1, ve.sn⟩, h3⟩
      · refine ⟨((k : Int) + 1, ⟨e.State, s, e.Target, (e.Moved + s).tmod 1125899906842625⟩), by simp [Bool.cond_eq_ite, e2], by simp, ⟨ve.st, ⟨s1, s2⟩, hmod, s3, ve.s1, ve.sn⟩, h3⟩) (fun s hI => by
      obtain ⟨i, e⟩ := s
      obtain ⟨rfl, ve, h3⟩ := hI
      have h1 : decide (((min (max n 0) 3600).toNat : Int) < min (max n 0) 3600) = false := by simp only [decide_eq_false_iff_not]; omega
      exact ⟨e, by simp only [h1, cond_false], ve, h3⟩) (by omega)
  rw [hr]
  exact ⟨r, rfl, hq⟩

theorem t_DriveValid : AllW (fun y => y = some true) [TI.t_Motor, TI.t_Drive, TI.l_Op] (l14_DriveValid 5000) := fun (m : Motor) _ (d0 : Drive) _ (l : List Op) _ => by
  show l14_DriveValid 5000 m d0 l = some true
  unfold l14_DriveValid
  rw [alive_ok]
  obtain ⟨b, hb, hb2⟩ := valid_of 5000 m d0
  rw [hb]
  cases b with
  | false => rfl
  | true =>
    obtain ⟨hm, v0⟩ := hb2 rfl
    by_cases hl : (l.length : Int) > 60
    · simp [hl]
    · simp only [hl, Option.bind_some, decide_false, Bool.not_true, cond_false]
      refine bind_inv (fun k s => s.1 = (k : Int) ∧ Vd m s.2) (fun r => ∃ d, r = .inl d) l.length ⟨rfl, v0⟩ (fun k s hk hI => ?_) (fun s hI => ?_) (by omega) (fun r hr => ?_)
      · obtain ⟨i, d⟩ := s
        obtain ⟨rfl, v⟩ := hI
        have h1 : decide ((k : Int) < (l.length : Int)) = true := by simp [hk]
        have h3 : decide ((0 : Int) ≤ (k : Int)) = true := by simp
        have hw := wrapN (i := k) (by omega)
        left
        obtain ⟨x, hx0⟩ : ∃ x, l.getD k z_Op = x := ⟨_, rfl⟩
        simp only [h1, h3, Bool.and_self, cond_true, Int.toNat_natCast, hw, hx0]
        simp only at v
        have hsp := v.sp
        by_cases k0 : x.Kind = 0
        · by_cases e1 : d.State = 2 ∨ d.State = 3
          · have hst : drive_Start 5000 m d x.N = some (z_Drive, 10) := by
              unfold drive_Start
              rcases e1 with e1 | e1 <;> simp [e1]
            exact ⟨((k : Int) + 1, d), by simp [k0, hst, z_Drive], by simp, v⟩
          · have e2 : d.State ≠ 2 := fun h => e1 (.inl h)
            have e3 : d.State ≠ 3 := fun h => e1 (.inr h)
            by_cases e4 : 1 ≤ x.N ∧ x.N ≤ m.Max
            · have hst : drive_Start 5000 m d x.N = some (⟨1, d.Speed, x.N, d.Moved⟩, 0) := by
                unfold drive_Start
                simp [within_eq, Bool.cond_eq_ite, e2, e3, e4]
              have v' : Vd m ⟨1, d.Speed, x.N, d.Moved⟩ := ⟨by simp, v.sp, v.mv, fun h => by simp at h, fun _ => e4, fun h => by simp at h⟩
              exact ⟨((k : Int) + 1, ⟨1, d.Speed, x.N, d.Moved⟩), by simp [k0, hst, valid_true 5000 v', Bool.cond_eq_ite, e3], by simp, v'⟩
            · have hst : drive_Start 5000 m d x.N = some (z_Drive, 2) := by
                unfold drive_Start
                have : (decide (1 ≤ x.N) && decide (x.N ≤ m.Max)) = false := by simpa using e4
                simp only [within_eq, this]
                simp [Bool.cond_eq_ite, e2, e3]
              exact ⟨((k : Int) + 1, d), by simp [k0, hst, z_Drive], by simp, v⟩
        by_cases k1 : x.Kind = 1
        · by_cases e1 : d.State = 1
          · have hst : drive_Halt 5000 m d = some ⟨2, d.Speed, 0, d.Moved⟩ := by
              unfold drive_Halt
              simp [e1]
            have v' : Vd m ⟨2, d.Speed, 0, d.Moved⟩ := ⟨by simp, v.sp, v.mv, fun h => by simp at h, fun h => by simp at h, fun _ => rfl⟩
            exact ⟨((k : Int) + 1, ⟨2, d.Speed, 0, d.Moved⟩), by simp [k1, hst, valid_true 5000 v', e1], by simp, v'⟩
          · have hst : drive_Halt 5000 m d = some d := by
              unfold drive_Halt
              simp [Bool.cond_eq_ite, e1]
            refine ⟨((k : Int) + 1, d), ?_, by simp, v⟩
            by_cases e3 : d.State = 3 <;> simp [k1, hst, valid_true 5000 v, Bool.cond_eq_ite, e3]
        by_cases k2 : x.Kind = 2
        · have v' : Vd m ⟨3, d.Speed, 0, d.Moved⟩ := ⟨by simp, v.sp, v.mv, fun h => by simp at h, fun h => by simp at h, fun _ => rfl⟩
          refine ⟨((k : Int) + 1, ⟨3, d.Speed, 0, d.Moved⟩), ?_, by simp, v'⟩
          by_cases e3 : d.State = 3 <;> simp [k2, drive_Emergency, valid_true 5000 v', Bool.cond_eq_ite, e3]
        by_cases k3 : x.Kind = 3
        · by_cases e1 : d.State = 3 ∧ d.Speed = 0
          · obtain ⟨e1, e2⟩ := e1
            have hst : drive_Reset 5000 m d = some (⟨0, d.Speed, d.Target, d.Moved⟩, 0) := by
              unfold drive_Reset
              simp [e1, e2]
            have v' : Vd m ⟨0, d.Speed, d.Target, d.Moved⟩ := ⟨by simp, v.sp, v.mv, fun _ => e2, fun h => by simp at h, fun _ => v.sn (by omega)⟩
            exact ⟨((k : Int) + 1, ⟨0, d.Speed, d.Target, d.Moved⟩), by simp [k3, hst, valid_true 5000 v', e1], by simp, v'⟩
          · have hst : drive_Reset 5000 m d = some (z_Drive, 10) := by
              unfold drive_Reset
              by_cases e2 : d.State = 3
              · have : d.Speed ≠ 0 := fun h => e1 ⟨e2, h⟩
                simp [Bool.cond_eq_ite, e2, this]
              · simp [Bool.cond_eq_ite, e2]
            exact ⟨((k : Int) + 1, d), by simp [k3, hst, z_Drive], by simp, v⟩
        · obtain ⟨d', hst, v', h33⟩ := step_ok hm v (min x.N 100)
          refine ⟨((k : Int) + 1, d'), ?_, by simp, v'⟩
          have hkk : ¬ (0 ≤ x.Kind ∧ x.Kind ≤ 3) := by omega
          by_cases g1 : 0 ≤ x.Kind
          · have g2 : ¬ x.Kind ≤ 3 := fun h => hkk ⟨g1, h⟩
            by_cases e3 : d.State = 3
            · simp [Bool.cond_eq_ite, k0, k1, k2, k3, hst, valid_true 5000 v', g1, g2, e3, h33 e3]
            · simp [Bool.cond_eq_ite, k0, k1, k2, k3, hst, valid_true 5000 v', g1, g2, e3]
          · by_cases e3 : d.State = 3
            · simp [Bool.cond_eq_ite, k0, k1, k2, k3, hst, valid_true 5000 v', g1, e3, h33 e3]
            · simp [Bool.cond_eq_ite, k0, k1, k2, k3, hst, valid_true 5000 v', g1, e3]
      · obtain ⟨i, d⟩ := s
        obtain ⟨rfl, _⟩ := hI
        exact ⟨.inl d, by simp, d, rfl⟩
      · obtain ⟨d, rfl⟩ := hr
        rfl
end Go.Proofs.Ytjlhngfmghipoaa
