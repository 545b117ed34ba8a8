/- Snowmaking: Right returns; the law SnowmakingMay in plain words. No condition. -/
import Derived.Test.YtkhkblihdabnoaaSno3
import Derived.Test.YtkhkblihdabnoaaCmp
namespace Go.Proofs.Ytkhkblihdabnoaa
open Go.Cm Go.Proofs
section
variable {N : Nat} (hN : 1000 < N)
include hN
theorem small_tot (s : SnowSystem) : W (fun b => b = true → Small s) (l44_small N s) := by
  unfold l44_small
  refine W_bind (Q' := Sum.elim (fun _ => s.Kinds.length ≤ 30 ∧ ∀ i, i < s.Kinds.length → (s.Kinds.getD i z_GunKind).Output.length ≤ 70) (fun b => b = false)) ?_ fun r hr => ?_
  · refine W_loop (fun i z => z = (i : Int) ∧ ∀ j, j < i → (s.Kinds.getD j z_GunKind).Output.length ≤ 70) (min s.Kinds.length 30) ⟨rfl, fun j hj => by omega⟩ (fun i z hi hI => ?_) (fun z hI => ?_) (by omega)
    · obtain ⟨rfl, hI⟩ := hI
      have g1 : decide ((i : Int) ≥ 30) = false := by rw [decide_eq_false_iff_not]; omega
      simp only [dlt (show i < s.Kinds.length by omega), dge, Bool.and_self, cond_true, g1, cond_false, Option.bind_some, Int.toNat_natCast, wrapC (show i < 9223372036854775807 by omega)]
      refine W_cond (fun _ => W_some rfl) (fun h => W_some ⟨rfl, fun j hj => ?_⟩)
      rw [decide_eq_false_iff_not] at h
      rcases Nat.lt_succ_iff_lt_or_eq.1 hj with h1 | rfl
      · exact hI j h1
      · omega
    · obtain ⟨rfl, hI⟩ := hI
      by_cases hl : s.Kinds.length ≤ 30
      · rw [Nat.min_eq_left hl] at hI ⊢
        simp only [dnlt, cond_false]
        exact W_some ⟨hl, hI⟩
      · rw [Nat.min_eq_right (by omega)]
        have g1 : decide (((30 : Nat) : Int) ≥ 30) = true := by decide
        simp only [dlt (show 30 < s.Kinds.length by omega), cond_true, g1, Option.bind_some]
        exact W_some rfl
  · cases r with
    | inr b =>
      have hb : b = false := hr
      exact W_some (fun h => by rw [hb] at h; cases h)
    | inl u =>
      simp only [Sum.elim_inl, cond_and, Option.bind_some]
      refine W_some fun h => ?_
      simp only [Bool.and_eq_true, decide_eq_true_eq] at h
      have hk : s.Kinds.length ≤ 30 ∧ _ := hr
      exact ⟨by omega, by omega, by omega, by omega, by omega, hk.1, hk.2⟩
theorem pumpRight_tot (l : List Pump) : W (fun _ => True) (pump_Right N l) := by
  unfold pump_Right
  refine W_cond (fun _ => W_some trivial) (fun h => ?_)
  have hl : l.length ≤ 8 := by rw [decide_eq_false_iff_not] at h; omega
  refine W_bind (Q' := fun _ => True) ?_ fun r _ => W_elim (fun _ => W_some trivial) (fun _ => W_some trivial)
  refine W_loop (fun i s => s.1 = (i : Int)) l.length rfl (fun i s hi hI => ?_) (fun s hI => ?_) (by omega)
  · obtain ⟨k, f⟩ := s
    simp only at hI
    subst hI
    simp only [dlt hi, dge, Bool.and_self, cond_true, cond_or, Option.bind_some, wrapC (show i < 9223372036854775807 by omega)]
    exact W_cond (fun _ => W_some trivial) (fun _ => W_cond (fun _ => W_some trivial) (fun _ => W_some rfl))
  · obtain ⟨k, f⟩ := s
    simp only at hI
    subst hI
    simp only [dnlt, cond_false]
    exact W_some trivial
theorem pipeRight_tot (l : List Pipe) : W (fun _ => True) (pipe_Right N l) := by
  unfold pipe_Right
  refine W_cond (fun _ => W_some trivial) (fun h => ?_)
  have hl : l.length ≤ 64 := by rw [decide_eq_false_iff_not] at h; omega
  refine W_bind (Q' := fun _ => True) ?_ fun r _ => W_elim (fun _ => W_some trivial) (fun _ => W_some trivial)
  refine W_loop (fun i s => s = (i : Int)) l.length rfl (fun i s hi hI => ?_) (fun s hI => ?_) (by omega)
  · subst hI
    have htl : (l.take i).length = i := by simp; omega
    simp only [dlt hi, dle (show i ≤ l.length by omega), dge, Bool.and_self, cond_true, cond_or, Option.bind_some, Int.toNat_natCast, wrapC (show i < 9223372036854775807 by omega), htl]
    refine W_cond (fun _ => W_some trivial) (fun _ => W_cond (fun _ => W_some trivial) (fun _ => ?_))
    have hfin : ∀ c : Bool, W (Sum.elim (fun s : Int => s = ((i + 1 : Nat) : Int)) (fun _ : Unit ⊕ Int => True)) ((bif c then (pipe_find N (l.take i) (l.getD i z_Pipe).From).bind fun (r8 : Int) => some (decide (r8 < (0 : Int))) else some false).bind fun (r9 : Bool) =>
        bif r9 then some (Sum.inr (Sum.inr (8 : Int))) else some (Sum.inl ((i + 1 : Nat) : Int))) := fun c =>
      W_bind (Q' := fun _ => True) (W_cond (fun _ => W_bind (find_tot hN (by omega) _) fun r _ => W_some trivial) (fun _ => W_some trivial)) fun r _ => W_cond (fun _ => W_some trivial) (fun _ => W_some rfl)
    refine W_bind (Q' := fun _ => True) ?_ fun r _ => W_elim (fun _ => hfin _) (fun _ => W_cond (fun _ => W_some trivial) (fun _ => hfin _))
    refine W_loop (fun j s => s = (j : Int)) i rfl (fun j s hj hI => ?_) (fun s hI => ?_) (by omega)
    · subst hI
      simp only [dlt hj, dge, Bool.and_self, cond_true, wrapC (show j < 9223372036854775807 by omega)]
      exact W_cond (fun _ => W_some trivial) (fun _ => W_some rfl)
    · subst hI
      simp only [dnlt, cond_false]
      exact W_some trivial
  · subst hI
    simp only [dnlt, cond_false]
    exact W_some trivial
omit hN in
theorem upTo_eq (x m : Int) : snowmaking_upTo N x m = some (decide (x ≥ 0) && decide (x ≤ m)) := by
  unfold snowmaking_upTo
  rw [cond_and, Option.bind_some]
omit hN in
theorem packRight_tot (p : Pack) : W (fun _ => True) (snowpack_Right N p) := by
  unfold snowpack_Right snowpack_within
  simp only [cond_and, Option.bind_some]
  exact W_some trivial
omit hN in
theorem counters_tot (s : SnowSystem) : W (fun _ => True) (snowmaking_counters N s) := by
  unfold snowmaking_counters
  simp only [upTo_eq, Option.bind_some, cond_and]
  exact W_some trivial
theorem search_tot {l : List RunPack} (hl : l.length ≤ 900) {p : RunPack → Bool} {f : Int → Option (Int ⊕ (Unit ⊕ Int))} (hf : ∀ z, f z = bif decide (z < (l.length : Int)) then bif decide (0 ≤ z) && decide (z < (l.length : Int)) then bif p (l.getD z.toNat z_RunPack) then some (.inr (.inr z)) else some (.inl (IntKind.i64.wrap (z + 1))) else none else some (.inr (.inl ()))) :
    W (fun _ => True) (whileF N f 0) := by
  refine W_loop (fun i s => s = (i : Int)) l.length rfl (fun i s hi hI => ?_) (fun s hI => ?_) (by omega)
  · subst hI
    rw [hf]
    simp only [dlt hi, dge, Bool.and_self, cond_true, wrapC (show i < 9223372036854775807 by omega)]
    exact W_cond (fun _ => W_some trivial) (fun _ => W_some rfl)
  · subst hI
    rw [hf]
    simp only [dnlt, cond_false]
    exact W_some trivial
theorem right_tot {s : SnowSystem} (h : Small s) : W (fun _ => True) (snowmaking_Right N s) := by
  have h1 := h.guns
  have h2 := h.kinds
  have h3 := h.pipes
  have h4 := h.packs
  unfold snowmaking_Right
  rw [Pn.pright_eq hN, Gn.gright_eq hN]
  simp only [Option.bind_some, upTo_eq]
  refine W_cond (fun _ => W_some trivial) (fun _ => W_bind (pumpRight_tot hN _) fun r2 _ => W_cond (fun _ => W_some trivial) (fun _ => W_bind (pipeRight_tot hN _) fun r3 _ => W_cond (fun _ => W_some trivial) (fun _ => W_cond (fun _ => W_some trivial) (fun _ => W_cond (fun _ => W_some trivial) (fun _ => ?_)))))
  refine W_bind (Q' := fun _ => True) ?_ fun r9 _ => W_elim (fun _ => ?_) (fun _ => W_some trivial)
  · refine W_loop (fun i s => s = (i : Int)) s.Packs.length rfl (fun i z hi hI => ?_) (fun z hI => ?_) (by omega)
    · subst hI
      simp only [dlt hi, dge, Bool.and_self, cond_true, Int.toNat_natCast, wrapC (show i < 9223372036854775807 by omega)]
      refine W_bind (Q' := fun _ => True) (W_cond (fun _ => W_some trivial) (fun _ => W_cond (fun _ => W_some trivial) (fun _ => W_cond (fun _ => W_some trivial) (fun _ => W_cond (fun _ => W_some trivial) (fun _ => W_bind (packRight_tot _) fun r _ => W_some trivial))))) fun r7 _ => ?_
      refine W_cond (fun _ => W_some trivial) (fun _ => ?_)
      refine W_bind (Q' := fun _ => True) ?_ fun r8 _ => W_cond (fun _ => W_some trivial) (fun _ => W_some rfl)
      cases i with
      | zero => exact W_some trivial
      | succ k =>
        simp only [wrapS (show k < 9223372036854775807 by omega), dge, dlt (show k < s.Packs.length by omega), Bool.and_self, cond_true]
        exact W_cond (fun _ => W_some trivial) (fun _ => W_some trivial)
    · subst hI
      simp only [dnlt, cond_false]
      exact W_some trivial
  · refine W_bind (Q' := fun _ => True) ?_ fun r21 _ => W_elim (fun _ => ?_) (fun _ => W_some trivial)
    · refine W_loop (fun i s => s = (i : Int)) s.Guns.length rfl (fun i z hi hI => ?_) (fun z hI => ?_) (by omega)
      · subst hI
        simp only [dlt hi, dge, Bool.and_self, cond_true, Int.toNat_natCast, wrapC (show i < 9223372036854775807 by omega)]
        refine W_bind (Q' := fun _ => True) ?_ fun r13 _ => W_elim (fun _ => W_some trivial) (fun p15 => ?_)
        · refine W_loop (fun i s => s = (i : Int)) s.Packs.length rfl (fun i z hi hI => ?_) (fun z hI => ?_) (by omega)
          · subst hI
            simp only [dlt hi, dge, Bool.and_self, cond_true, wrapC (show i < 9223372036854775807 by omega)]
            exact W_cond (fun _ => W_some trivial) (fun _ => W_some rfl)
          · subst hI
            simp only [dnlt, cond_false]
            exact W_some trivial
        · refine W_bind (Q' := fun _ => True) (W_cond (fun _ => W_some trivial) (fun _ => ?_)) fun r20 _ => W_cond (fun _ => W_some trivial) (fun _ => W_some rfl)
          refine W_bind (Q' := fun _ => True) ?_ fun r17 _ => W_elim (fun _ => W_some trivial) (fun _ => W_some trivial)
          refine W_loop (fun i s => s = (i : Int)) s.Pipes.length rfl (fun i z hi hI => ?_) (fun z hI => ?_) (by omega)
          · subst hI
            simp only [dlt hi, dge, Bool.and_self, cond_true, wrapC (show i < 9223372036854775807 by omega)]
            exact W_cond (fun _ => W_some trivial) (fun _ => W_some rfl)
          · subst hI
            simp only [dnlt, cond_false]
            exact W_some trivial
      · subst hI
        simp only [dnlt, cond_false]
        exact W_some trivial
    · refine W_bind (Q' := fun _ => True) (W_cond (fun _ => W_some trivial) (fun _ => W_cond (fun _ => W_some trivial) (fun _ => W_cond (fun _ => W_some trivial) (fun _ => W_bind (counters_tot s) fun r _ => W_some trivial)))) fun r _ => W_cond (fun _ => W_some trivial) (fun _ => W_some trivial)
/-! a copy -/
theorem copy_eq {s : SnowSystem} (h : Small s) : snowmaking_copyOf N s = some s := by
  obtain ⟨h1, h2, h3, h4, h5, h6, h7⟩ := h
  unfold snowmaking_copyOf sl_Clone_Pond sl_Clone_Pump sl_Clone_Pipe sl_Clone_GunKind sl_Clone_Gun sl_Clone_RunPack
  have d0 : decide ((0 + s.Ponds.length) * 40 ≤ 140737488355328) = true := by rw [decide_eq_true_eq]; omega
  have d1 : decide ((0 + s.Pumps.length) * 24 ≤ 140737488355328) = true := by rw [decide_eq_true_eq]; omega
  have d2 : decide ((0 + s.Pipes.length) * 40 ≤ 140737488355328) = true := by rw [decide_eq_true_eq]; omega
  have d3 : decide ((0 + s.Kinds.length) * 48 ≤ 140737488355328) = true := by rw [decide_eq_true_eq]; omega
  have d4 : decide ((0 + s.Guns.length) * 64 ≤ 140737488355328) = true := by rw [decide_eq_true_eq]; omega
  have d5 : decide ((0 + s.Packs.length) * 40 ≤ 140737488355328) = true := by rw [decide_eq_true_eq]; omega
  simp only [d0, d1, d2, d3, d4, d5, cond_true, Option.bind_some]
  refine (bindT (fun i => ((i : Int), s.Kinds)) rfl s.Kinds s.Kinds.length (show s.Kinds.length < N by omega) (fun i hi => ?_) ?_).trans rfl
  · have hc : sl_Clone_Point N (s.Kinds.getD i z_GunKind).Output = some (s.Kinds.getD i z_GunKind).Output := by
      unfold sl_Clone_Point
      have := h7 i hi
      have : decide ((0 + (s.Kinds.getD i z_GunKind).Output.length) * 16 ≤ 140737488355328) = true := by rw [decide_eq_true_eq]; omega
      rw [this]; rfl
    simp only [dlt hi, dge, Bool.and_self, cond_true, Int.toNat_natCast, hc, Option.bind_some, wrapC (show i < 9223372036854775807 by omega)]
    have : s.Kinds.set i (GunKind.mk (s.Kinds.getD i z_GunKind).ID (s.Kinds.getD i z_GunKind).Output (s.Kinds.getD i z_GunKind).Power (s.Kinds.getD i z_GunKind).Pressure) = s.Kinds := by
      refine list_ext z_GunKind (by simp) fun j hj => ?_
      rw [getD_set _ _ _ _ _ hi]
      by_cases hij : i = j
      · rw [if_pos hij, ← hij]
      · rw [if_neg hij]
    rw [this]
  · simp only [dnlt, cond_false]
/-- a gun is switched on -/
theorem switch_on {s : SnowSystem} (h : Small s) (id x : Int) : W (fun r : SnowSystem × Int => r.2 = 0 → Small r.1 ∧ snowmaking_Why N r.1 x = some 0 ∧ ∃ i, i < r.1.Guns.length ∧ (r.1.Guns.getD i z_Gun).ID = id ∧ (r.1.Guns.getD i z_Gun).State = 1) (snowmaking_Switch N s id true x) := by
  have h1 := h.guns
  unfold snowmaking_Switch
  rw [search (fun i => (s.Guns.getD i z_Gun).ID == id) (fun i => (i : Int)) () s.Guns.length (by omega) (fun i hi => ?_) (by simp)]
  · cases hf : fst (fun i => (s.Guns.getD i z_Gun).ID == id) s.Guns.length with
    | none => exact W_some (fun h => by cases h)
    | some i =>
      obtain ⟨hi, hid, _⟩ := fst_some.1 hf
      have hid : (s.Guns.getD i z_Gun).ID = id := by simpa using hid
      have g0 : decide ((i : Int) < 0) = false := by rw [decide_eq_false_iff_not]; omega
      simp only [Option.bind_some, sres, Sum.elim_inr, g0, cond_false, cond_true, dge, dlt hi, Bool.and_self, Int.toNat_natCast, Gn.start_eq, copy_eq hN h]
      obtain ⟨⟨g, e⟩, hg⟩ : ∃ q, Gn.startS (s.Guns.getD i z_Gun) s.Time = q := ⟨_, rfl⟩
      simp only [hg]
      refine W_cond (fun he => W_some (fun h0 => ?_)) (fun he => ?_)
      · have h0 : e = 0 := h0
        rw [h0] at he
        cases he
      · have he : e = 0 := by simpa using he
        subst he
        have hgg : g.ID = id ∧ g.State = 1 := by
          unfold Gn.startS Gn.becS at hg
          cases hq1 : ((s.Guns.getD i z_Gun).State != 0) <;> rw [hq1] at hg
          · cases hq2 : (decide (s.Time < (s.Guns.getD i z_Gun).Since) || decide (s.Time > 20000000)) <;> rw [hq2] at hg
            · cases hq3 : decide (s.Time < IntKind.i64.wrap ((s.Guns.getD i z_Gun).Since + (s.Guns.getD i z_Gun).Off)) <;> rw [hq3] at hg
              · simp only [cond_false, Prod.mk.injEq, and_true] at hg
                rw [← hg]
                exact ⟨hid, rfl⟩
              · simp at hg
            · simp at hg
          · simp at hg
        obtain ⟨t, ht⟩ : ∃ t, t = SnowSystem.mk s.Ponds s.Pumps s.Pipes s.Kinds (s.Guns.set i g) s.Packs s.Pressure s.Limit s.Time s.Water s.Lost s.Energy s.Inflow := ⟨_, rfl⟩
        rw [← ht]
        have hS : Small t := by rw [ht]; exact ⟨h.ponds, h.pumps, h.pipes, by simp only [List.length_set]; exact h.guns, h.packs, h.kinds, h.outs⟩
        obtain ⟨r, hw, _⟩ := why_tot hN hS x
        rw [hw]
        simp only [Option.bind_some]
        cases hr : (r != 0) with
        | true => exact W_some (fun h0 => by
            have h0 : r = 0 := h0
            rw [h0] at hr
            cases hr)
        | false =>
          have hr : r = 0 := by simpa using hr
          subst hr
          refine W_some (fun _ => ⟨hS, hw, i, ?_, ?_⟩)
          · rw [ht]; simp only [List.length_set]; exact hi
          · rw [ht]
            simp only
            rw [getD_set _ _ _ _ _ hi, if_pos rfl]
            exact hgg
  · simp only [dlt hi, dge, Bool.and_self, cond_true, Int.toNat_natCast, wrapN (show i < 9223372036854775807 by omega)]
end
theorem t_SnowmakingMay : AllW (fun y => y = some true) [TI.t_SnowSystem, TI.t_i64, TI.t_i64] (l44_SnowmakingMay 2000) := fun (s : SnowSystem) _ (id : Int) _ (x : Int) _ => by
  show l44_SnowmakingMay 2000 s id x = some true
  have hN : 1000 < 2000 := by omega
  unfold l44_SnowmakingMay
  rw [alive_ok]
  obtain ⟨b, hb, hS⟩ := small_tot hN s
  simp only [Option.bind_some, Bool.not_true, cond_false, hb]
  cases b with
  | false => rfl
  | true =>
    have hs := hS rfl
    obtain ⟨r, hr, _⟩ := right_tot hN hs
    simp only [hr, Option.bind_some, Bool.not_true, cond_false]
    cases (r != 0) with
    | true => rfl
    | false =>
      obtain ⟨⟨t, e⟩, ht, hq⟩ := switch_on hN hs id x
      simp only [cond_false, ht, Option.bind_some]
      cases he : (e != 0) with
      | true => rfl
      | false =>
        have he : e = 0 := by simpa using he
        subst he
        obtain ⟨hS', hw, i0, hi0, hid, hst⟩ := hq rfl
        obtain ⟨p, hp, hle⟩ := why_ok hN hS' hw
        have hg := hS'.guns
        simp only at hw hp hle hid hst hi0 hg
        simp only [hp, Option.bind_some, cond_false, hw, beq_self_eq_true, cond_true]
        have d1 : decide (p ≤ t.Limit) = true := by rw [decide_eq_true_eq]; exact hle
        refine (bindT (fun k => ((fst (fun j => (t.Guns.getD j z_Gun).ID == id && (t.Guns.getD j z_Gun).State == 1) k).isSome, (k : Int))) rfl true t.Guns.length (by omega) (fun k hk => ?_) ?_).trans ?_
        · rw [fst_succ]
          simp only [dlt hk, dge, Bool.and_self, cond_true, Int.toNat_natCast, wrapC (show k < 9223372036854775807 by omega)]
          cases (fst (fun j => (t.Guns.getD j z_Gun).ID == id && (t.Guns.getD j z_Gun).State == 1) k).isSome
          · cases (t.Guns.getD k z_Gun).ID == id <;> rfl
          · rfl
        · have : (fst (fun j => (t.Guns.getD j z_Gun).ID == id && (t.Guns.getD j z_Gun).State == 1) t.Guns.length).isSome = true := by
            cases hf : fst (fun j => (t.Guns.getD j z_Gun).ID == id && (t.Guns.getD j z_Gun).State == 1) t.Guns.length with
            | some j => rfl
            | none =>
              have h5 : ((t.Guns.getD i0 z_Gun).ID == id && (t.Guns.getD i0 z_Gun).State == 1) = false := fst_none.1 hf i0 hi0
              rw [hid, hst] at h5
              simp at h5
          simp only [dnlt, cond_false, this]
        · simp only [d1, cond_true, Option.bind_some]
end Go.Proofs.Ytkhkblihdabnoaa
