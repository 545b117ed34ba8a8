/- The guns: the law GunRests in plain words. No condition. -/
import Derived.Test.YtenjellgjcofaaaGun3
namespace Go.Proofs.Ytenjellgjcofaaa
open Go.Cm Go.Proofs
def actS (g : Gun) (o : Op) : Gun × Int :=
  bif o.Kind == 0 then startS g o.T else bif o.Kind == 1 then stopS g o.T else bif o.Kind == 2 then becS g 2 o.T 0 else repairS g o.T
theorem act_eq {N : Nat} (g : Gun) (o : Op) (h : inRangeS g = true) : l42_act N g o = some (actS g o) := by
  unfold l42_act actS
  rw [start_eq, stop_eq, fail_eq _ _ h, repair_eq _ _ h]
  cases o.Kind == 0 <;> cases o.Kind == 1 <;> cases o.Kind == 2 <;> rfl
theorem range_spec {g : Gun} (h : inRangeS g = true) : 1 ≤ g.ID ∧ g.ID ≤ 9999 ∧ 1 ≤ g.Node ∧ g.Node ≤ 9999 ∧ 1 ≤ g.Run ∧ g.Run ≤ 9999 ∧ 0 ≤ g.On ∧ g.On ≤ 86400 ∧ 0 ≤ g.Off ∧ g.Off ≤ 86400 ∧ 0 ≤ g.State ∧ g.State ≤ 2 ∧ 0 ≤ g.Since ∧ g.Since ≤ 20000000 := by
  simp only [inRangeS, Bool.and_eq_true, Bool.not_eq_true', Bool.or_eq_false_iff, decide_eq_true_eq, decide_eq_false_iff_not] at h
  omega
theorem range_of {g : Gun} (h : 1 ≤ g.ID ∧ g.ID ≤ 9999 ∧ 1 ≤ g.Node ∧ g.Node ≤ 9999 ∧ 1 ≤ g.Run ∧ g.Run ≤ 9999 ∧ 0 ≤ g.On ∧ g.On ≤ 86400 ∧ 0 ≤ g.Off ∧ g.Off ≤ 86400 ∧ 0 ≤ g.State ∧ g.State ≤ 2 ∧ 0 ≤ g.Since ∧ g.Since ≤ 20000000) : inRangeS g = true := by
  simp only [inRangeS, Bool.and_eq_true, Bool.not_eq_true', Bool.or_eq_false_iff, decide_eq_true_eq, decide_eq_false_iff_not]
  omega
/-- what a call does -/
def Did (g : Gun) (o : Op) (r : Gun × Int) : Prop :=
  (r.1 = z_Gun ∧ r.2 ≠ 0) ∨ ∃ st, r = (Gun.mk g.ID g.Node g.Run g.Kind st o.T g.On g.Off, 0) ∧ 0 ≤ st ∧ st ≤ 2 ∧ g.Since ≤ o.T ∧ o.T ≤ 20000000 ∧
    (o.Kind = 0 → g.State = 0 ∧ st = 1 ∧ g.Since + g.Off ≤ o.T) ∧ (o.Kind = 1 → g.State = 1 ∧ st = 0 ∧ g.Since + g.On ≤ o.T) ∧ (o.Kind = 2 → st = 2)
theorem bec_did (g : Gun) (st t least : Int) (h : inRangeS g = true) (hl : 0 ≤ least ∧ least ≤ 86400) :
    ((becS g st t least).1 = z_Gun ∧ (becS g st t least).2 ≠ 0) ∨ becS g st t least = (Gun.mk g.ID g.Node g.Run g.Kind st t g.On g.Off, 0) ∧ g.Since ≤ t ∧ t ≤ 20000000 ∧ g.Since + least ≤ t := by
  have hr := range_spec h
  unfold becS
  rw [wrap64 (by omega) (by omega)]
  by_cases h1 : t < g.Since
  · left; simp [h1]
  · by_cases h2 : t > 20000000
    · left; simp [h1, h2]
    · by_cases h3 : t < g.Since + least
      · left; simp [h1, h2, h3]
      · right; simp [h1, h2, h3]; omega
theorem act_did (g : Gun) (o : Op) (h : inRangeS g = true) : Did g o (actS g o) := by
  have hr := range_spec h
  unfold actS
  by_cases k0 : o.Kind = 0
  · rw [show (o.Kind == 0) = true by simp [k0], cond_true]
    unfold startS
    by_cases hs : g.State = 0
    · rw [show (g.State != 0) = false by simp [hs], cond_false]
      rcases bec_did g 1 o.T g.Off h (by omega) with h1 | ⟨h1, h2, h3, h4⟩
      · exact .inl h1
      · exact .inr ⟨1, h1, by omega, by omega, h2, h3, fun _ => ⟨hs, rfl, h4⟩, fun h => by omega, fun h => by omega⟩
    · rw [show (g.State != 0) = true by simp [hs], cond_true]
      exact .inl ⟨rfl, by simp⟩
  · rw [show (o.Kind == 0) = false by simp [k0], cond_false]
    by_cases k1 : o.Kind = 1
    · rw [show (o.Kind == 1) = true by simp [k1], cond_true]
      unfold stopS
      by_cases hs : g.State = 1
      · rw [show (g.State != 1) = false by simp [hs], cond_false]
        rcases bec_did g 0 o.T g.On h (by omega) with h1 | ⟨h1, h2, h3, h4⟩
        · exact .inl h1
        · exact .inr ⟨0, h1, by omega, by omega, h2, h3, fun h => absurd h k0, fun _ => ⟨hs, rfl, h4⟩, fun h => by omega⟩
      · rw [show (g.State != 1) = true by simp [hs], cond_true]
        exact .inl ⟨rfl, by simp⟩
    · rw [show (o.Kind == 1) = false by simp [k1], cond_false]
      by_cases k2 : o.Kind = 2
      · rw [show (o.Kind == 2) = true by simp [k2], cond_true]
        rcases bec_did g 2 o.T 0 h (by omega) with h1 | ⟨h1, h2, h3, h4⟩
        · exact .inl h1
        · exact .inr ⟨2, h1, by omega, by omega, h2, h3, fun h => absurd h k0, fun h => absurd h k1, fun _ => rfl⟩
      · rw [show (o.Kind == 2) = false by simp [k2], cond_false]
        unfold repairS
        cases g.State != 2
        · rw [cond_false]
          rcases bec_did g 0 o.T 0 h (by omega) with h1 | ⟨h1, h2, h3, h4⟩
          · exact .inl h1
          · exact .inr ⟨0, h1, by omega, by omega, h2, h3, fun h => absurd h k0, fun h => absurd h k1, fun h => absurd h k2⟩
        · exact .inl ⟨rfl, by simp⟩
theorem t_GunRests : AllW (fun y => y = some true) [TI.t_Gun, TI.l_Op] (l42_GunRests 2000) := fun (g0 : Gun) _ (l : List Op) _ => by
  show l42_GunRests 2000 g0 l = some true
  unfold l42_GunRests
  rw [alive_ok, single_eq (by omega)]
  cases hs0 : singS g0 with
  | false => rfl
  | true =>
    simp only [Option.bind_some, Bool.not_true, cond_false]
    by_cases hl : (l.length : Int) > 60
    · simp only [hl, decide_true, cond_true]
    · simp only [hl, decide_false, cond_false]
      refine bind_inv (fun i s => s.1 = (i : Int) ∧ singS s.2 = true) (fun r => ∃ g, r = .inl g) l.length ⟨rfl, hs0⟩ (fun i s hi hI => .inl ?_) (fun s hI => ?_) (by omega) (fun r hr => ?_)
      · obtain ⟨k, g⟩ := s
        obtain ⟨hk, hg⟩ := hI
        simp only at hk hg
        subst hk
        have hg' := hg
        simp only [singS, Bool.and_eq_true, decide_eq_true_eq] at hg'
        have hr := range_spec hg'.1
        simp only [dlt hi, dge, Bool.and_self, cond_true, Int.toNat_natCast, act_eq _ _ hg'.1, Option.bind_some, wrapC (show i < 9223372036854775807 by omega)]
        obtain ⟨o, ho⟩ : ∃ o, l.getD i z_Op = o := ⟨_, rfl⟩
        simp only [ho]
        rcases act_did g o hg'.1 with ⟨h1, h2⟩ | ⟨st, h1, h2, h3, h4, h5, h6, h7, h8⟩
        · refine ⟨(((i + 1 : Nat) : Int), g), ?_, rfl, hg⟩
          have h3 : ((actS g o).2 != 0) = true := by simp [h2]
          simp only [h3, cond_true, h1]
          rfl
        · refine ⟨(((i + 1 : Nat) : Int), Gun.mk g.ID g.Node g.Run g.Kind st o.T g.On g.Off), ?_, rfl, ?_⟩
          · have hn : singS (Gun.mk g.ID g.Node g.Run g.Kind st o.T g.On g.Off) = true := by
              simp only [singS, Bool.and_eq_true, decide_eq_true_eq]
              exact ⟨range_of (by simp only; omega), hg'.2⟩
            have e1 : decide (o.T < g.Since) = false := by simp; omega
            rw [h1]
            simp only [bne_self_eq_false, cond_false, beq_self_eq_true, Bool.and_self, Bool.not_true, e1, single_eq (show 1000 < 2000 by omega), hn, Option.bind_some]
            by_cases k0 : o.Kind = 0
            · obtain ⟨a, b, c⟩ := h6 k0
              have e2 : decide (IntKind.i64.wrap (o.T - g.Since) < g.Off) = false := by rw [wrap64 (by omega) (by omega)]; simp; omega
              simp [k0, a, b, e2]
            · by_cases k1 : o.Kind = 1
              · obtain ⟨a, b, c⟩ := h7 k1
                have e2 : decide (IntKind.i64.wrap (o.T - g.Since) < g.On) = false := by rw [wrap64 (by omega) (by omega)]; simp; omega
                simp [k1, a, b, e2]
              · by_cases k2 : o.Kind = 2
                · simp [k2, h8 k2]
                · have q0 : (o.Kind == 0) = false := by simp [k0]
                  have q1 : (o.Kind == 1) = false := by simp [k1]
                  have q2 : (o.Kind == 2) = false := by simp [k2]
                  simp only [q0, q1, q2, cond_false, Option.bind_some, Sum.elim_inl]
          · simp only [singS, Bool.and_eq_true, decide_eq_true_eq]
            exact ⟨range_of (by simp only; omega), hg'.2⟩
      · obtain ⟨k, g⟩ := s
        obtain ⟨hk, hg⟩ := hI
        simp only at hk
        subst hk
        exact ⟨.inl g, by simp only [dnlt, cond_false], g, rfl⟩
      · obtain ⟨g, rfl⟩ := hr
        rfl
end Go.Proofs.Ytenjellgjcofaaa
