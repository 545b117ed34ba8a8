/- Snowmaking: a step in which no gun is on. No condition. -/
import Derived.Test.YtkhkblihdabnoaaSno5
namespace Go.Proofs.Ytkhkblihdabnoaa
open Go.Cm Go.Proofs
def AllOff (l : List Gun) : Prop := ∀ g, g ∈ l → Gn.onB g = false
theorem off_nil {l : List Gun} (h : AllOff l) : l.filter Gn.onB = [] := by
  rw [List.filter_eq_nil_iff]
  intro g hg
  rw [h g hg]
  simp
theorem draws_off {l : List Gun} (h : AllOff l) (ks : List GunKind) (x : Int) : Gn.drawsS ks l x = [] := by unfold Gn.drawsS; rw [off_nil h]; rfl
theorem needs_off {l : List Gun} (h : AllOff l) (ks : List GunKind) : Gn.needsS ks l = [] := by unfold Gn.needsS; rw [off_nil h]; rfl
section
variable {N : Nat} (hN : 1000 < N)
include hN
theorem gpower_off {l : List Gun} (h : AllOff l) (hl : l.length ≤ 64) (ks : List GunKind) : gun_Power N ks l = some 0 := by
  unfold gun_Power
  refine (bindT (fun i => ((0 : Int), (i : Int))) rfl (0 : Int) l.length (show l.length < N by omega) (fun i hi => ?_) ?_).trans rfl
  · have ho : ((l.getD i z_Gun).State == 1) = false := h _ (getD_mem l i z_Gun hi)
    simp only [dlt hi, dge, Bool.and_self, cond_true, Int.toNat_natCast, ho, cond_false, Option.bind_some, wrapC (show i < 9223372036854775807 by omega)]
  · simp only [dnlt, cond_false]
theorem power_idle {s : SnowSystem} (h : Small s) (hr : RightOk N s) (ho : AllOff s.Guns) (x : Int) : snowmaking_Power N s x = some (0, 0) := by
  have h1 := h.guns
  have h2 := h.kinds
  unfold snowmaking_Power
  rw [Gn.draws_eq hN _ _ _ (by omega) (by omega), draws_off ho, Option.bind_some]
  obtain ⟨r, e, q⟩ := best_zero hN hr.pumps.1 hr.pumps.2
  refine (bindT (fun i => ((0 : Int), (i : Int))) rfl (0 : Int) 0 (show 0 < N by omega) (fun i hi => by omega) ?_).trans ?_
  · rfl
  · rw [e, gpower_off hN ho (by omega)]
    simp only [Option.bind_some, q.1, q.2, bne_self_eq_false, cond_false]
    rfl
theorem low_idle {l : List Pipe} (hl : l.length ≤ 900) (root : Int) : pipe_Low N l [] root [] = some [] := by
  suffices h : W (fun r : List Int => r = []) (pipe_Low N l [] root []) by
    obtain ⟨r, e, rfl⟩ := h
    exact e
  unfold pipe_Low
  have c1 : decide ((l.length : Int) ≤ (l.length : Int)) = true := by simp
  have c2 : decide ((l.length : Int) * 8 ≤ 140737488355328) = true := by rw [decide_eq_true_eq]; omega
  refine W_bind (flows_tot hN hl (d := []) (by simp)) fun r4 h4 => ?_
  simp only [c1, c2, Bool.and_self, cond_true, Option.bind_some, Int.toNat_natCast]
  have key : ∀ (r : Int) (p : List Int), p.length = l.length → r < (l.length : Int) → decide (r < 0) = false → (decide (0 ≤ r) && decide (r < (p.length : Int))) = true := fun r p hp hr h => by
    rw [decide_eq_false_iff_not] at h
    simp only [Bool.and_eq_true, decide_eq_true_eq]
    omega
  refine W_bind (Q' := fun r : List Int => r.length = l.length) ?_ fun r11 h11 => W_bind (Q' := fun r : List Int => r = []) ?_ fun r hr => W_some hr
  · refine W_loop (fun i s => s.1 = (i : Int) ∧ s.2.length = l.length) l.length ⟨rfl, by simp⟩ (fun i s hi hI => ?_) (fun s hI => ?_) (by omega)
    · obtain ⟨k, p⟩ := s
      obtain ⟨hk, hp⟩ := hI
      simp only at hk hp
      subst hk
      simp only [dlt hi, dge, dlt (show i < r4.length by omega), dlt (show i < p.length by omega), Bool.and_self, cond_true, wrapC (show i < 9223372036854775807 by omega), Option.bind_some]
      refine W_cond (fun _ => W_some ⟨rfl, by simp [hp]⟩) (fun _ => W_bind (find_tot hN hl _) fun r8 h8 => W_cond (fun _ => W_some ⟨rfl, by simp [hp]⟩) (fun h => ?_))
      simp only [key r8 p hp h8.2 h, cond_true]
      exact W_some ⟨rfl, by simp [hp]⟩
    · obtain ⟨k, p⟩ := s
      obtain ⟨hk, hp⟩ := hI
      simp only at hk hp
      subst hk
      simp only [dnlt, cond_false]
      exact W_some hp
  · refine W_loop (fun i s => s = ([], (0 : Int))) 0 rfl (fun i s hi hI => by omega) (fun s hI => ?_) (by omega)
    subst hI
    exact W_some rfl
theorem why_idle {s : SnowSystem} (h : Small s) (hr : RightOk N s) (ho : AllOff s.Guns) (x : Int) : snowmaking_Why N s x = some 0 := by
  have h1 := h.guns
  have h2 := h.kinds
  have h3 := h.pipes
  have h4 := hr.rest
  unfold snowmaking_Why
  rw [power_idle hN h hr ho x, Gn.draws_eq hN _ _ _ (by omega) (by omega), Gn.needs_eq hN _ _ (by omega) (by omega), draws_off ho, needs_off ho]
  have d1 : decide ((0 : Int) > s.Limit) = false := by rw [decide_eq_false_iff_not]; omega
  simp only [Option.bind_some, bne_self_eq_false, cond_false, d1, low_idle hN (show s.Pipes.length ≤ 900 by omega)]
  rfl
omit hN in
theorem make_zero {p : RunPack} (h : PackOk p) : snowpack_Make N p.Pack 0 = some (p.Pack, 0) := by
  unfold PackOk at h
  unfold snowpack_Make snowpack_within snowpack_add snowpack_water
  rw [packRight_eq]
  have e1 : (decide (0 ≤ p.Pack.Natural) && decide (p.Pack.Natural ≤ 20000) && (decide (0 ≤ p.Pack.Machine) && decide (p.Pack.Machine ≤ 20000) && (decide (50 ≤ p.Pack.Density) && decide (p.Pack.Density ≤ 900)))) = true := by
    simp only [Bool.and_eq_true, decide_eq_true_eq]; omega
  have e2 : decide (p.Pack.Machine > 20000) = false := by rw [decide_eq_false_iff_not]; omega
  have e3 : decide (IntKind.i64.wrap ((0 : Int) + 0) > 0) = false := by decide
  have e4 : IntKind.i64.wrap (p.Pack.Natural + 0) = p.Pack.Natural := by rw [wrap64 (by omega) (by omega)]; omega
  have e5 : IntKind.i64.wrap (p.Pack.Machine + 0) = p.Pack.Machine := by rw [wrap64 (by omega) (by omega)]; omega
  have e6 : decide ((0 : Int) ≤ 0) = true := by decide
  have e7 : decide ((0 : Int) ≤ 1000) = true := by decide
  simp only [e1, e2, e3, e4, e5, e6, e7, Option.bind_some, Bool.not_true, cond_false, cond_true]
omit hN in
theorem take0 {l : List Pond} (hN : 1000 < N) (hl : l.length ≤ 8) (ha : ∀ p, p ∈ l → Pn.PondOk p) : pond_Take N l 0 = some (l, 0) := by
  have hs : 0 ≤ Pn.spaI l := (Pn.sum_bound (fun p : Pond => p.Volume - p.Least) 1000000000 l (fun p hp => by have := ha p hp; unfold Pn.PondOk at this; omega)).1
  unfold pond_Take
  have c0 : decide ((0 : Int) < 0) = false := by decide
  have c1 : decide ((0 : Int) > Pn.spaI l) = false := by rw [decide_eq_false_iff_not]; omega
  simp only [c0, cond_false, Pn.spare_eq hN l hl ha, Option.bind_some, c1, Pn.clone_eq l (show l.length ≤ 900 by omega), beq_self_eq_true, cond_true]
theorem step_idle {s : SnowSystem} (h : Small s) (hr : RightOk N s) (ho : AllOff s.Guns) (x sec : Int) :
    W (fun r : SnowSystem × Int => (r.2 = 2 ∨ r.2 = 12) ∨ (r.2 = 0 ∧ 1 ≤ sec ∧ sec ≤ 3600 ∧ r.1 = SnowSystem.mk (s.Ponds.map (Pn.fillP sec)) s.Pumps s.Pipes s.Kinds s.Guns s.Packs s.Pressure s.Limit (IntKind.i64.wrap (s.Time + sec)) s.Water s.Lost s.Energy (IntKind.i64.wrap (s.Inflow + Pn.sumW s.Ponds sec)) ∧
      0 ≤ IntKind.i64.wrap (s.Inflow + Pn.sumW s.Ponds sec) ∧ IntKind.i64.wrap (s.Inflow + Pn.sumW s.Ponds sec) ≤ 1125899906842624)) (snowmaking_Step N s x sec) := by
  have hg := h.guns
  have hk := h.kinds
  have hpk := h.packs
  have hrest := hr.rest
  have hcnt := hr.count
  obtain ⟨hpl, _⟩ := (Pn.right_iff s.Ponds).1 hr.ponds
  have hpa := Pn.right_all hr.ponds
  have hs0 : 0 ≤ Pn.spaI s.Ponds := (Pn.sum_bound (fun p : Pond => p.Volume - p.Least) 1000000000 s.Ponds (fun p hp => by have := hpa p hp; unfold Pn.PondOk at this; omega)).1
  unfold snowmaking_Step
  simp only [cond_or, Option.bind_some]
  refine W_cond (fun _ => W_some (.inl (.inl rfl))) (fun hb => ?_)
  simp only [Bool.or_eq_false_iff, decide_eq_false_iff_not] at hb
  rw [why_idle hN h hr ho x, power_idle hN h hr ho x, copy_eq hN h, Pn.spare_eq hN s.Ponds hpl hpa]
  simp only [Option.bind_some, bne_self_eq_false, cond_false]
  refine W_bind (Q' := fun r : Int × (Int → Option Int) => r = (0, fun _ => none)) ⟨_, throughG (fun i => ((0 : Int), (i : Int), (fun _ => none : Int → Option Int))) ((0 : Int), (fun _ => none : Int → Option Int)) s.Guns.length (show s.Guns.length < N by omega) (fun i hi => ?_) ?_, rfl⟩ fun r10 h10 => ?_
  · have hd : gun_Draws N s.Kinds [s.Guns.getD i z_Gun] x = some [] := by
      rw [Gn.draws_eq hN _ _ _ (by omega) (by simp), draws_off (fun g hg' => by
        rw [List.mem_singleton] at hg'
        rw [hg']
        exact ho _ (getD_mem s.Guns i z_Gun hi))]
    simp only [dlt hi, dge, Bool.and_self, cond_true, Int.toNat_natCast, Option.bind_some, hd, wrapC (show i < 9223372036854775807 by omega)]
    refine (bindT (fun _ => ((0 : Int), (0 : Int), (fun _ => none : Int → Option Int))) rfl ((0 : Int), (fun _ => none : Int → Option Int)) 0 (show 0 < N by omega) (fun i hi => by omega) ?_).trans rfl
    rfl
  · simp only [dnlt, cond_false]
  · subst h10
    have d1 : decide ((0 : Int) > Pn.spaI s.Ponds) = false := by rw [decide_eq_false_iff_not]; omega
    have hf : pond_Fill N s.Ponds sec = some (s.Ponds.map (Pn.fillP sec), Pn.sumW s.Ponds sec, 0) := by
      rw [Pn.fill_eq hN s.Ponds sec hpl]
      unfold Pn.fillS
      have : (decide (sec < 0) || decide (sec > 86400)) = false := by simp only [Bool.or_eq_false_iff, decide_eq_false_iff_not]; omega
      rw [this]; rfl
    have wz : IntKind.i64.wrap ((0 : Int) * sec) = 0 := by rw [Int.zero_mul]; decide
    have we : IntKind.i64.wrap (s.Energy + 0) = s.Energy := by rw [wrap64 (by omega) (by omega)]; omega
    have ww : IntKind.i64.wrap (s.Water + 0) = s.Water := by rw [wrap64 (by omega) (by omega)]; omega
    simp only [d1, cond_false, take0 hN hpl hpa, Option.bind_some, bne_self_eq_false, hf, wz, we, ww]
    refine W_bind (Q' := fun r => r = Sum.inl (z_SnowSystem, SnowSystem.mk (s.Ponds.map (Pn.fillP sec)) s.Pumps s.Pipes s.Kinds s.Guns [] s.Pressure s.Limit s.Time s.Water s.Lost s.Energy (IntKind.i64.wrap (s.Inflow + Pn.sumW s.Ponds sec)), s.Packs))
      ⟨_, throughG (fun i => ((i : Int), z_SnowSystem, SnowSystem.mk (s.Ponds.map (Pn.fillP sec)) s.Pumps s.Pipes s.Kinds s.Guns [] s.Pressure s.Limit s.Time s.Water s.Lost s.Energy (IntKind.i64.wrap (s.Inflow + Pn.sumW s.Ponds sec)), s.Packs)) _ s.Packs.length (show s.Packs.length < N by omega) (fun i hi => ?_) ?_, rfl⟩ fun r19 h19 => ?_
    · have hp := hr.packs i hi
      have ha : ((s.Packs.getD i z_RunPack).Area != 0) = true := by unfold PackOk at hp; rw [bne_iff_ne]; omega
      have hmm : min (1000 : Int) (IntKind.i64.wrap (((none : Option Int).getD 0).tdiv (s.Packs.getD i z_RunPack).Area)) = 0 := by
        have : ((none : Option Int).getD 0).tdiv (s.Packs.getD i z_RunPack).Area = 0 := Int.zero_tdiv _
        rw [this]
        decide
      have hll : IntKind.i64.wrap (s.Lost + IntKind.i64.wrap ((none : Option Int).getD 0 - IntKind.i64.wrap (0 * (s.Packs.getD i z_RunPack).Area))) = s.Lost := by
        rw [Int.zero_mul]
        have : IntKind.i64.wrap ((none : Option Int).getD 0 - IntKind.i64.wrap 0) = 0 := by decide
        rw [this, wrap64 (by omega) (by omega)]
        omega
      have hset : s.Packs.set i (RunPack.mk (s.Packs.getD i z_RunPack).Run (s.Packs.getD i z_RunPack).Area (s.Packs.getD i z_RunPack).Pack) = s.Packs := by
        refine list_ext z_RunPack (by simp) fun j hj => ?_
        rw [getD_set _ _ _ _ _ hi]
        by_cases hij : i = j
        · rw [if_pos hij, ← hij]
        · rw [if_neg hij]
      simp only [dlt hi, dge, Bool.and_self, cond_true, Int.toNat_natCast, ha, hmm, make_zero hp, Option.bind_some, bne_self_eq_false, cond_false, hset, hll, wrapC (show i < 9223372036854775807 by omega)]
    · simp only [dnlt, cond_false]
    · subst h19
      simp only [Sum.elim_inl, counters_eq, Option.bind_some]
      refine W_cond (fun _ => W_some (.inl (.inr rfl))) (fun hc => W_some (.inr ⟨rfl, by omega, by omega, rfl, ?_⟩))
      simp only [Bool.not_eq_false', Bool.and_eq_true, decide_eq_true_eq] at hc
      omega
end
end Go.Proofs.Ytkhkblihdabnoaa
