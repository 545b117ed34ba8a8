/- Snowmaking: what it means that a system is right; the pumps for no flow. No condition. -/
import Derived.Test.YtkhkblihdabnoaaSno4
namespace Go.Proofs.Ytkhkblihdabnoaa
open Go.Cm Go.Proofs
def PumpOk (p : Pump) : Prop := 1 ≤ p.ID ∧ p.ID ≤ 9999 ∧ 1 ≤ p.Flow ∧ p.Flow ≤ 1000000 ∧ 1 ≤ p.Power ∧ p.Power ≤ 100000000
def PackOk (p : RunPack) : Prop := 1 ≤ p.Run ∧ p.Run ≤ 9999 ∧ 1 ≤ p.Area ∧ p.Area ≤ 10000000 ∧ 0 ≤ p.Pack.Natural ∧ p.Pack.Natural ≤ 20000 ∧ 0 ≤ p.Pack.Machine ∧ p.Pack.Machine ≤ 20000 ∧ 50 ≤ p.Pack.Density ∧ p.Pack.Density ≤ 900
section
variable {N : Nat} (hN : 1000 < N)
include hN
theorem pumpRight_spec (l : List Pump) : W (fun r => r = 0 → l.length ≤ 8 ∧ ∀ i, i < l.length → PumpOk (l.getD i z_Pump)) (pump_Right N l) := by
  unfold pump_Right
  refine W_cond (fun _ => W_some (fun h => by cases h)) (fun h => ?_)
  have hl : l.length ≤ 8 := by rw [decide_eq_false_iff_not] at h; omega
  refine W_bind (Q' := Sum.elim (fun _ => ∀ i, i < l.length → PumpOk (l.getD i z_Pump)) (fun r : Int × (Int → Option Bool) => r.1 ≠ 0)) ?_ fun r hr => ?_
  · refine W_loop (fun i s => s.1 = (i : Int) ∧ ∀ j, j < i → PumpOk (l.getD j z_Pump)) l.length ⟨rfl, fun j hj => by omega⟩ (fun i s hi hI => ?_) (fun s hI => ?_) (by omega)
    · obtain ⟨k, f⟩ := s
      obtain ⟨hk, hI⟩ := hI
      simp only at hk
      subst hk
      simp only [dlt hi, dge, Bool.and_self, cond_true, cond_or, Option.bind_some, Int.toNat_natCast, wrapC (show i < 9223372036854775807 by omega)]
      refine W_cond (fun _ => W_some (show (2 : Int) ≠ 0 by decide)) (fun hb => W_cond (fun _ => W_some (show (7 : Int) ≠ 0 by decide)) (fun _ => W_some ⟨rfl, fun j hj => ?_⟩))
      rcases Nat.lt_succ_iff_lt_or_eq.1 hj with h1 | rfl
      · exact hI j h1
      · simp only [Bool.or_eq_false_iff, decide_eq_false_iff_not] at hb
        unfold PumpOk
        omega
    · obtain ⟨k, f⟩ := s
      obtain ⟨hk, hI⟩ := hI
      simp only at hk
      subst hk
      simp only [dnlt, cond_false]
      exact W_some hI
  · cases r with
    | inl f => exact W_some (fun _ => ⟨hl, hr⟩)
    | inr r => exact W_some (fun h => absurd h hr)
omit hN in
theorem packRight_eq (p : Pack) : snowpack_Right N p = some (decide (0 ≤ p.Natural) && decide (p.Natural ≤ 20000) && (decide (0 ≤ p.Machine) && decide (p.Machine ≤ 20000) && (decide (50 ≤ p.Density) && decide (p.Density ≤ 900)))) := by
  unfold snowpack_Right snowpack_within
  simp only [cond_and, Option.bind_some]
structure RightOk (N : Nat) (s : SnowSystem) : Prop where
  ponds : Pn.rightS s.Ponds = 0
  pumps : s.Pumps.length ≤ 8 ∧ ∀ i, i < s.Pumps.length → PumpOk (s.Pumps.getD i z_Pump)
  pumpR : pump_Right N s.Pumps = some 0
  pipeR : pipe_Right N s.Pipes = some 0
  guns : Gn.rightS s.Kinds s.Guns = 0
  packs : ∀ i, i < s.Packs.length → PackOk (s.Packs.getD i z_RunPack)
  incr : ∀ i, i + 1 < s.Packs.length → (s.Packs.getD i z_RunPack).Run < (s.Packs.getD (i + 1) z_RunPack).Run
  rest : 0 ≤ s.Pressure ∧ s.Pressure ≤ 10000000 ∧ 0 ≤ s.Limit ∧ s.Limit ≤ 1000000000 ∧ 0 ≤ s.Time ∧ s.Time ≤ 20000000
  count : 0 ≤ s.Water ∧ s.Water ≤ 1125899906842624 ∧ 0 ≤ s.Lost ∧ s.Lost ≤ 1125899906842624 ∧ 0 ≤ s.Energy ∧ s.Energy ≤ 1125899906842624 ∧ 0 ≤ s.Inflow ∧ s.Inflow ≤ 1125899906842624
omit hN in
theorem counters_eq (s : SnowSystem) : snowmaking_counters N s = some (decide (s.Water ≥ 0) && decide (s.Water ≤ 1125899906842624) && (decide (s.Lost ≥ 0) && decide (s.Lost ≤ 1125899906842624) && (decide (s.Energy ≥ 0) && decide (s.Energy ≤ 1125899906842624) && (decide (s.Inflow ≥ 0) && decide (s.Inflow ≤ 1125899906842624))))) := by
  unfold snowmaking_counters
  simp only [upTo_eq, Option.bind_some, cond_and]
theorem right_spec {s : SnowSystem} (h : Small s) : W (fun r => r = 0 → RightOk N s) (snowmaking_Right N s) := by
  have h1 := h.guns
  have h2 := h.kinds
  have h3 := h.pipes
  have h4 := h.packs
  unfold snowmaking_Right
  rw [Pn.pright_eq hN, Gn.gright_eq hN]
  simp only [Option.bind_some, upTo_eq]
  have ne : ∀ r : Int, (r != 0) = true → r = 0 → False := fun r hr h0 => by rw [h0] at hr; cases hr
  refine W_cond (fun hb => W_some (fun h0 => (ne _ hb h0).elim)) (fun hp => ?_)
  obtain ⟨r2, e2, q2⟩ := pumpRight_spec hN s.Pumps
  obtain ⟨r3, e3, _⟩ := pipeRight_tot hN s.Pipes
  rw [e2, e3]
  simp only [Option.bind_some]
  refine W_cond (fun hb => W_some (fun h0 => (ne _ hb h0).elim)) (fun h2' => W_cond (fun hb => W_some (fun h0 => (ne _ hb h0).elim)) (fun h3' => W_cond (fun hb => W_some (fun h0 => (ne _ hb h0).elim)) (fun h4' => W_cond (fun hb => W_some (fun h0 => by cases h0)) (fun h5' => ?_))))
  have z2 : r2 = 0 := by simpa using h2'
  have z3 : r3 = 0 := by simpa using h3'
  subst z2
  subst z3
  refine W_bind (Q' := Sum.elim (fun _ => (∀ i, i < s.Packs.length → PackOk (s.Packs.getD i z_RunPack)) ∧ ∀ i, i + 1 < s.Packs.length → (s.Packs.getD i z_RunPack).Run < (s.Packs.getD (i + 1) z_RunPack).Run) (fun r : Int => r ≠ 0)) ?_ fun r9 h9 => ?_
  · refine W_loop (fun i z => z = (i : Int) ∧ (∀ j, j < i → PackOk (s.Packs.getD j z_RunPack)) ∧ ∀ j, j + 1 < i → (s.Packs.getD j z_RunPack).Run < (s.Packs.getD (j + 1) z_RunPack).Run) s.Packs.length ⟨rfl, fun j hj => by omega, fun j hj => by omega⟩ (fun i z hi hI => ?_) (fun z hI => ?_) (by omega)
    · obtain ⟨rfl, i1, i2⟩ := hI
      simp only [dlt hi, dge, Bool.and_self, cond_true, Int.toNat_natCast, packRight_eq, Option.bind_some, cond_or, wrapC (show i < 9223372036854775807 by omega)]
      refine W_cond (fun _ => W_some (show (2 : Int) ≠ 0 by decide)) (fun hb => ?_)
      have hok : PackOk (s.Packs.getD i z_RunPack) := by
        simp only [Bool.or_eq_false_iff, Bool.not_eq_false', Bool.and_eq_true, decide_eq_true_eq, decide_eq_false_iff_not] at hb
        unfold PackOk
        omega
      have hall : ∀ j, j < i + 1 → PackOk (s.Packs.getD j z_RunPack) := fun j hj => by
        rcases Nat.lt_succ_iff_lt_or_eq.1 hj with h1 | rfl
        · exact i1 j h1
        · exact hok
      cases i with
      | zero => exact W_some ⟨rfl, hall, fun j hj => by omega⟩
      | succ k =>
        have g1 : decide (((k + 1 : Nat) : Int) > 0) = true := by simp
        simp only [g1, cond_true, wrapS (show k < 9223372036854775807 by omega), dge, dlt (show k < s.Packs.length by omega), Bool.and_self, Int.toNat_natCast, Option.bind_some]
        refine W_cond (fun _ => W_some (show (11 : Int) ≠ 0 by decide)) (fun hb2 => W_some ⟨rfl, hall, fun j hj => ?_⟩)
        rw [decide_eq_false_iff_not] at hb2
        by_cases hjk : j = k
        · subst hjk; omega
        · exact i2 j (by omega)
    · obtain ⟨rfl, i1, i2⟩ := hI
      simp only [dnlt, cond_false]
      exact W_some ⟨i1, i2⟩
  · cases r9 with
    | inr r => exact W_some (fun h0 => absurd h0 h9)
    | inl u =>
      simp only [Sum.elim_inl]
      refine W_bind (Q' := Sum.elim (fun _ => True) (fun r : Int => r ≠ 0)) ?_ fun r21 h21 => ?_
      · refine W_loop (fun i s => s = (i : Int)) s.Guns.length rfl (fun i z hi hI => ?_) (fun z hI => ?_) (by omega)
        · subst hI
          simp only [dlt hi, dge, Bool.and_self, cond_true, Int.toNat_natCast, wrapC (show i < 9223372036854775807 by omega)]
          refine W_bind (Q' := fun _ => True) ?_ fun r13 _ => W_elim (fun _ => W_some (show (8 : Int) ≠ 0 by decide)) (fun p15 => ?_)
          · refine W_loop (fun i s => s = (i : Int)) s.Packs.length rfl (fun i z hi hI => ?_) (fun z hI => ?_) (by omega)
            · subst hI
              simp only [dlt hi, dge, Bool.and_self, cond_true, wrapC (show i < 9223372036854775807 by omega)]
              exact W_cond (fun _ => W_some trivial) (fun _ => W_some rfl)
            · subst hI
              simp only [dnlt, cond_false]
              exact W_some trivial
          · refine W_bind (Q' := fun _ => True) (W_cond (fun _ => W_some trivial) (fun _ => ?_)) fun r20 _ => W_cond (fun _ => W_some (show (8 : Int) ≠ 0 by decide)) (fun _ => W_some rfl)
            refine W_bind (Q' := fun _ => True) ?_ fun r17 _ => W_elim (fun _ => W_some trivial) (fun _ => W_some trivial)
            refine W_loop (fun i s => s = (i : Int)) s.Pipes.length rfl (fun i z hi hI => ?_) (fun z hI => ?_) (by omega)
            · subst hI
              simp only [dlt hi, dge, Bool.and_self, cond_true, wrapC (show i < 9223372036854775807 by omega)]
              exact W_cond (fun _ => W_some trivial) (fun _ => W_some rfl)
            · subst hI
              simp only [dnlt, cond_false]
              exact W_some trivial
        · subst hI
          simp only [dnlt, cond_false]
          exact W_some trivial
      · cases r21 with
        | inr r => exact W_some (fun h0 => absurd h0 h21)
        | inl u =>
          simp only [Sum.elim_inl, counters_eq, Option.bind_some, cond_or]
          refine W_cond (fun _ => W_some (fun h0 => by cases h0)) (fun hb => W_some (fun _ => ?_))
          simp only [Bool.or_eq_false_iff, Bool.not_eq_false', Bool.and_eq_true, decide_eq_true_eq] at hb
          exact ⟨by simpa using hp, q2 rfl, e2, e3, by simpa using h4', h9.1, h9.2, by omega, by omega⟩
/-! pumps for no flow -/
theorem flow_nn {l : List Pump} (hl : l.length ≤ 8) (hp : ∀ i, i < l.length → PumpOk (l.getD i z_Pump)) {c : List Int} (hc : c.length ≤ 900) : W (fun r : Int => 0 ≤ r) (pump_Flow N l c) := by
  unfold pump_Flow
  refine W_bind (Q' := fun r : Int => 0 ≤ r) ?_ fun r hr => W_some hr
  refine W_loop (fun i s => s.2 = (i : Int) ∧ 0 ≤ s.1 ∧ s.1 ≤ 1000000 * i) l.length ⟨rfl, by simp, by simp⟩ (fun i s hi hI => ?_) (fun s hI => ?_) (by omega)
  · obtain ⟨a, k⟩ := s
    obtain ⟨hk, ha, hb⟩ := hI
    simp only at hk ha hb
    subst hk
    have hpi := hp i hi
    unfold PumpOk at hpi
    simp only [dlt hi, dge, Bool.and_self, cond_true, Int.toNat_natCast, wrapC (show i < 9223372036854775807 by omega)]
    refine W_bind (contains_tot hN hc _) fun r _ => ?_
    rw [wrap64 (z := a + (l.getD i z_Pump).Flow) (by omega) (by omega)]
    exact W_bind (Q' := fun r : Int => 0 ≤ r ∧ r ≤ 1000000 * ((i : Int) + 1)) (W_cond (fun _ => W_some (by omega)) (fun _ => W_some (by omega))) fun r hr => W_some ⟨rfl, hr.1, by have := hr.2; simp only; omega⟩
  · obtain ⟨a, k⟩ := s
    obtain ⟨hk, ha, hb⟩ := hI
    simp only at hk ha
    subst hk
    simp only [dnlt, cond_false]
    exact W_some ha
theorem ppower_nn {l : List Pump} (hl : l.length ≤ 8) (hp : ∀ i, i < l.length → PumpOk (l.getD i z_Pump)) {c : List Int} (hc : c.length ≤ 900) : W (fun r : Int => 0 ≤ r ∧ (c = [] → r = 0)) (pump_Power N l c) := by
  unfold pump_Power
  refine W_bind (Q' := fun r : Int => 0 ≤ r ∧ (c = [] → r = 0)) ?_ fun r hr => W_some hr
  refine W_loop (fun i s => s.2 = (i : Int) ∧ (0 ≤ s.1 ∧ s.1 ≤ 100000000 * i) ∧ (c = [] → s.1 = 0)) l.length ⟨rfl, ⟨by simp, by simp⟩, fun _ => rfl⟩ (fun i s hi hI => ?_) (fun s hI => ?_) (by omega)
  · obtain ⟨a, k⟩ := s
    obtain ⟨hk, hab, hz⟩ := hI
    simp only at hk hab hz
    subst hk
    have hpi := hp i hi
    unfold PumpOk at hpi
    simp only [dlt hi, dge, Bool.and_self, cond_true, Int.toNat_natCast, wrapC (show i < 9223372036854775807 by omega)]
    have hcon : W (fun r => c = [] → r = false) (sl_Contains_int N c (i : Int)) := by
      by_cases hc0 : c = []
      · subst hc0
        obtain ⟨M, rfl⟩ : ∃ M, N = M + 1 := ⟨N - 1, by omega⟩
        exact ⟨false, rfl, fun _ => rfl⟩
      · exact W_mono (contains_tot hN hc _) fun r _ h => absurd h hc0
    refine W_bind hcon fun r hr => ?_
    rw [wrap64 (z := a + (l.getD i z_Pump).Power) (by omega) (by omega)]
    exact W_bind (Q' := fun r : Int => (0 ≤ r ∧ r ≤ 100000000 * ((i : Int) + 1)) ∧ (c = [] → r = 0)) (W_cond (fun hb => W_some ⟨by omega, fun h0 => by rw [hr h0] at hb; cases hb⟩) (fun _ => W_some ⟨by omega, hz⟩)) fun r hr => W_some ⟨rfl, ⟨hr.1.1, by have := hr.1.2; simp only; omega⟩, hr.2⟩
  · obtain ⟨a, k⟩ := s
    obtain ⟨hk, hab, hz⟩ := hI
    simp only at hk hab hz
    subst hk
    simp only [dnlt, cond_false]
    exact W_some ⟨hab.1, hz⟩
theorem members_zero : pump_members N 0 = some [] := by
  obtain ⟨M, rfl⟩ : ∃ M, N = M + 1 := ⟨N - 1, by omega⟩
  rfl
theorem best_zero {l : List Pump} (hl : l.length ≤ 8) (hp : ∀ i, i < l.length → PumpOk (l.getD i z_Pump)) : W (fun r : List Int × Int × Int => r.2.1 = 0 ∧ r.2.2 = 0) (pump_Best N l 0) := by
  unfold pump_Best
  have c0 : decide ((0 : Int) < 0) = false := by decide
  have c1 : decide ((l.length : Int) > 8) = false := by rw [decide_eq_false_iff_not]; omega
  have hp' : 2 ^ l.length - 1 < 256 := by
    have h8 : 2 ^ l.length ≤ 2 ^ 8 := Nat.pow_le_pow_right (by decide) hl
    have : 2 ^ 8 = 256 := by decide
    have : 0 < 2 ^ l.length := Nat.pow_pos (by decide)
    omega
  simp only [c0, c1, cond_false, shl_small hl]
  generalize 2 ^ l.length - 1 = a at hp'
  have hmem : ∀ i : Nat, i < 256 → W (fun r6 : List Int => r6.length ≤ 8 ∧ (i = 0 → r6 = [])) (pump_members N (i : Int)) := fun i hi => by
    by_cases hi0 : i = 0
    · subst hi0; exact ⟨[], members_zero hN, by simp, fun _ => rfl⟩
    · exact W_mono (members_tot hN hi) fun r hr => ⟨hr, fun h => absurd h hi0⟩
  refine W_bind (hmem a hp') fun r2 h2 => W_bind (flow_nn hN hl hp (by omega)) fun r3 h3 => W_cond (fun hb => ?_) (fun _ => W_bind (ppower_nn hN hl hp (by omega)) fun r4 h4 => ?_)
  · rw [decide_eq_true_eq] at hb; omega
  · refine W_bind (Q' := fun r : List Int × Int => r.2 = 0) ?_ fun r hr => W_some ⟨hr, rfl⟩
    refine W_loop (fun i s => s.2.2 = (i : Int) ∧ s.1.length ≤ 8 ∧ 0 ≤ s.2.1 ∧ (0 < i ∨ a = 0 → s.2.1 = 0)) a ⟨rfl, h2.1, h4.1, fun h => h4.2 (h2.2 (by omega))⟩ (fun i s hi hI => ?_) (fun s hI => ?_) (by omega)
    · obtain ⟨c, lp, k⟩ := s
      obtain ⟨hk, hc, h5, h6⟩ := hI
      simp only at hk hc h5 h6
      subst hk
      simp only [dlt hi, cond_true, wrapC (show i < 9223372036854775807 by omega)]
      refine W_bind (Q' := fun r : List Int × Int => r.1.length ≤ 8 ∧ r.2 = 0) ?_ fun r hr => W_some ⟨rfl, hr.1, by have := hr.2; simp only; omega, fun _ => hr.2⟩
      refine W_bind (hmem i (by omega)) fun r6 q6 => W_bind (flow_nn hN hl hp (by omega)) fun r7 q7 => W_cond (fun hb => by rw [decide_eq_true_eq] at hb; omega) (fun _ => W_bind (ppower_nn hN hl hp (by omega)) fun r8 q8 => ?_)
      have hb10 : W (fun b : Bool => (b = true → r8 ≤ lp) ∧ (b = false → lp ≤ r8)) (bif decide (r8 < lp) then some true else bif r8 == lp then (sl_Compare_int N r6 c).bind fun (r9 : Int) => some (decide (r9 < (0 : Int))) else some false) := by
        refine W_cond (fun hb => W_some ⟨fun _ => ?_, fun h => by cases h⟩) (fun hb => W_cond (fun he => W_bind (compare_tot hN (by omega)) fun r9 _ => W_some ⟨fun _ => ?_, fun _ => ?_⟩) (fun _ => W_some ⟨fun h => (by cases h), fun _ => ?_⟩))
        · rw [decide_eq_true_eq] at hb; omega
        · have := eq_of_beq he; omega
        · have := eq_of_beq he; omega
        · rw [decide_eq_false_iff_not] at hb; omega
      refine W_bind hb10 fun r10 q10 => W_bind (Q' := fun r : List Int × Int => r.1.length ≤ 8 ∧ r.2 = 0) (W_cond (fun hb => W_some ⟨q6.1, ?_⟩) (fun hb => W_some ⟨hc, ?_⟩)) fun r hr => W_some hr
      · have h9 := q10.1 hb
        simp only
        by_cases hi0 : i = 0
        · exact q8.2 (q6.2 hi0)
        · have := h6 (by omega)
          have := q8.1
          omega
      · have h9 := q10.2 hb
        simp only
        by_cases hi0 : i = 0
        · have := q8.2 (q6.2 hi0)
          omega
        · exact h6 (by omega)
    · obtain ⟨c, lp, k⟩ := s
      obtain ⟨hk, hc, h5, h6⟩ := hI
      simp only at hk h6
      subst hk
      simp only [dnlt, cond_false]
      exact W_some (h6 (by omega))
end
end Go.Proofs.Ytkhkblihdabnoaa
