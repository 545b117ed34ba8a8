/- Own texts in one module: Snoa Snob Snoc Snod Snoh Sno8 Sng1 Sng2 Sng3 Sng4. No condition. -/
import Derived.Test.YtkhkblihdabnoaaGreatPlA
/- Snowmaking: what a step computes, exactly. No condition. -/
namespace Go.Proofs.YtkhkblihdabnoaaGreat
open Go.Cm Go.Proofs
def lit (s : SnowSystem) (x sec : Int) (g : Gun) : Int := bif Gn.onB g then Gn.outS (Gn.kindOf s.Kinds g.Kind) x * sec / 60 else 0
def litR (s : SnowSystem) (x sec u : Int) (g : Gun) : Int := bif g.Run == u then lit s x sec g else 0
def sumL (s : SnowSystem) (x sec : Int) : Int := (s.Guns.map (lit s x sec)).sum
def runL (s : SnowSystem) (x sec u : Int) : Int := (s.Guns.map (litR s x sec u)).sum
theorem out_lit {N : Nat} {s : SnowSystem} (hr : RightOk N s) {x sec : Int} (h1 : 1 ≤ sec) (h2 : sec ≤ 3600) (id : Int) :
    IntKind.i64.wrap ((IntKind.i64.wrap (Gn.outS (Gn.kindOf s.Kinds id) x * sec)).tdiv 60) = Gn.outS (Gn.kindOf s.Kinds id) x * sec / 60 ∧ 0 ≤ Gn.outS (Gn.kindOf s.Kinds id) x * sec / 60 ∧ Gn.outS (Gn.kindOf s.Kinds id) x * sec / 60 ≤ 600000 := by
  have ho := Gn.out_range (Gn.right_zero hr.guns).2.2.1 id x
  have k1 : 0 ≤ Gn.outS (Gn.kindOf s.Kinds id) x * sec := Int.mul_nonneg ho.1 (by omega)
  have k2 : Gn.outS (Gn.kindOf s.Kinds id) x * sec ≤ 10000 * 3600 := Int.mul_le_mul ho.2 h2 (by omega) (by omega)
  refine ⟨?_, by omega, by omega⟩
  rw [wrap64 (z := Gn.outS (Gn.kindOf s.Kinds id) x * sec) (by omega) (by omega), Int.tdiv_eq_ediv_of_nonneg k1, wrap64 (by omega) (by omega)]
theorem lit_bound {N : Nat} {s : SnowSystem} (hr : RightOk N s) {x sec : Int} (h1 : 1 ≤ sec) (h2 : sec ≤ 3600) (g : Gun) : 0 ≤ lit s x sec g ∧ lit s x sec g ≤ 600000 := by
  unfold lit
  cases Gn.onB g
  · exact ⟨Int.le_refl 0, show (0 : Int) ≤ 600000 by decide⟩
  · exact (out_lit hr h1 h2 g.Kind).2
theorem litR_bound {N : Nat} {s : SnowSystem} (hr : RightOk N s) {x sec : Int} (h1 : 1 ≤ sec) (h2 : sec ≤ 3600) (u : Int) (g : Gun) : 0 ≤ litR s x sec u g ∧ litR s x sec u g ≤ 600000 := by
  unfold litR
  cases g.Run == u
  · exact ⟨Int.le_refl 0, show (0 : Int) ≤ 600000 by decide⟩
  · exact lit_bound hr h1 h2 g
theorem sumL_bound {N : Nat} {s : SnowSystem} (h : Small s) (hr : RightOk N s) {x sec : Int} (h1 : 1 ≤ sec) (h2 : sec ≤ 3600) : 0 ≤ sumL s x sec ∧ sumL s x sec ≤ 18000000 := by
  have := Pn.sum_bound (lit s x sec) 600000 s.Guns fun g _ => lit_bound hr h1 h2 g
  have := h.guns
  unfold sumL
  omega
theorem runL_bound {N : Nat} {s : SnowSystem} (h : Small s) (hr : RightOk N s) {x sec : Int} (h1 : 1 ≤ sec) (h2 : sec ≤ 3600) (u : Int) : 0 ≤ runL s x sec u ∧ runL s x sec u ≤ 18000000 := by
  have := Pn.sum_bound (litR s x sec u) 600000 s.Guns fun g _ => litR_bound hr h1 h2 u g
  have := h.guns
  unfold runL
  omega
/-! snow -/
def densP (p : Pack) (mm : Int) : Int := bif decide (mm > 0) then (p.Natural + p.Machine + mm) * p.Density * 450 / ((p.Natural + p.Machine) * 450 + mm * p.Density) else p.Density
def makeP (p : Pack) (mm : Int) : Pack := Pack.mk p.Natural (p.Machine + mm) (densP p mm)
def PkOk (p : Pack) : Prop := 0 ≤ p.Natural ∧ p.Natural ≤ 20000 ∧ 0 ≤ p.Machine ∧ p.Machine ≤ 20000 ∧ 50 ≤ p.Density ∧ p.Density ≤ 900
theorem dens_facts {p : Pack} (h : PkOk p) {mm : Int} (h0 : 0 < mm) (h1 : mm ≤ 1000) :
    (0 ≤ (p.Natural + p.Machine + mm) * p.Density ∧ (p.Natural + p.Machine + mm) * p.Density ≤ 36900000) ∧ (0 < mm * p.Density ∧ mm * p.Density ≤ 900000) ∧ 50 ≤ (p.Natural + p.Machine + mm) * p.Density * 450 / ((p.Natural + p.Machine) * 450 + mm * p.Density) ∧ (p.Natural + p.Machine + mm) * p.Density * 450 / ((p.Natural + p.Machine) * 450 + mm * p.Density) ≤ 900 := by
  unfold PkOk at h
  obtain ⟨w, hw⟩ : ∃ w, p.Natural + p.Machine = w := ⟨_, rfl⟩
  rw [hw]
  have a1 : w * 50 ≤ w * p.Density := Int.mul_le_mul_of_nonneg_left (by omega) (by omega)
  have a2 : w * p.Density ≤ w * 900 := Int.mul_le_mul_of_nonneg_left (by omega) (by omega)
  have b1 : mm * 50 ≤ mm * p.Density := Int.mul_le_mul_of_nonneg_left (by omega) (by omega)
  have b2 : mm * p.Density ≤ mm * 900 := Int.mul_le_mul_of_nonneg_left (by omega) (by omega)
  rw [Int.add_mul]
  obtain ⟨a, ha⟩ : ∃ a, w * p.Density = a := ⟨_, rfl⟩
  obtain ⟨b, hb⟩ : ∃ b, mm * p.Density = b := ⟨_, rfl⟩
  rw [ha] at a1 a2 ⊢
  rw [hb] at b1 b2 ⊢
  refine ⟨by omega, by omega, ?_, ?_⟩
  · rw [Int.le_ediv_iff_mul_le (by omega)]; omega
  · exact Int.ediv_le_of_le_mul (by omega) (by omega)
theorem make_ok {p : Pack} (h : PkOk p) {mm : Int} (h0 : 0 ≤ mm) (h1 : mm ≤ 1000) (h2 : p.Machine + mm ≤ 20000) : PkOk (makeP p mm) := by
  have hd : 50 ≤ densP p mm ∧ densP p mm ≤ 900 := by
    unfold densP
    by_cases hm : mm > 0
    · simp only [hm, decide_true, cond_true]
      exact (dens_facts h hm h1).2.2
    · simp only [hm, decide_false, cond_false]
      unfold PkOk at h
      omega
  unfold PkOk at h ⊢
  unfold makeP
  simp only
  omega
theorem make_eq {N : Nat} {p : Pack} (h : PkOk p) {mm : Int} (h0 : 0 ≤ mm) (h1 : mm ≤ 1000) : snowpack_Make N p mm = some (bif decide (p.Machine + mm > 20000) then (z_Pack, 12) else (makeP p mm, 0)) := by
  have h' := h
  unfold PkOk at h'
  unfold snowpack_Make snowpack_within
  rw [packRight_eq]
  have e1 : (decide (0 ≤ p.Natural) && decide (p.Natural ≤ 20000) && (decide (0 ≤ p.Machine) && decide (p.Machine ≤ 20000) && (decide (50 ≤ p.Density) && decide (p.Density ≤ 900)))) = true := by
    simp only [Bool.and_eq_true, decide_eq_true_eq]; omega
  have e6 : decide (0 ≤ mm) = true := by rw [decide_eq_true_eq]; omega
  have e7 : decide (mm ≤ 1000) = true := by rw [decide_eq_true_eq]; omega
  simp only [e1, e6, e7, Option.bind_some, Bool.not_true, cond_false, cond_true, wrap64 (z := p.Machine + mm) (by omega) (by omega)]
  cases hq : decide (p.Machine + mm > 20000) with
  | true => rfl
  | false =>
    rw [decide_eq_false_iff_not] at hq
    unfold snowpack_add snowpack_water makeP densP
    simp only [cond_false, Option.bind_some, Int.zero_add, wrap64 (z := mm) (by omega) (by omega), wrap64 (z := p.Natural + p.Machine) (by omega) (by omega)]
    by_cases hm : mm > 0
    · obtain ⟨d1, d2, d3⟩ := dens_facts h hm h1
      have n0 : ((p.Natural + p.Machine) * 450 + mm * p.Density != 0) = true := by rw [bne_iff_ne]; omega
      simp only [hm, decide_true, cond_true, wrap64 (z := (p.Natural + p.Machine) * 450) (by omega) (by omega), wrap64 (z := mm * p.Density) (by omega) (by omega), wrap64 (z := (p.Natural + p.Machine) * 450 + mm * p.Density) (by omega) (by omega), n0,
        wrap64 (z := p.Natural + p.Machine + mm) (by omega) (by omega), wrap64 (z := (p.Natural + p.Machine + mm) * p.Density) (by omega) (by omega), wrap64 (z := (p.Natural + p.Machine + mm) * p.Density * 450) (by omega) (by omega), Option.bind_some,
        Int.tdiv_eq_ediv_of_nonneg (show 0 ≤ (p.Natural + p.Machine + mm) * p.Density * 450 by omega), Int.add_zero, wrap64 (z := p.Natural) (by omega) (by omega), wrap64 (z := p.Machine + mm) (by omega) (by omega), wrap64 (z := (p.Natural + p.Machine + mm) * p.Density * 450 / ((p.Natural + p.Machine) * 450 + mm * p.Density)) (by omega) (by omega)]
    · simp only [hm, decide_false, cond_false, Option.bind_some, Int.add_zero, wrap64 (z := p.Natural) (by omega) (by omega), wrap64 (z := p.Machine + mm) (by omega) (by omega)]
def mmP (s : SnowSystem) (x sec : Int) (p : RunPack) : Int := min 1000 (runL s x sec p.Run / p.Area)
def newP (s : SnowSystem) (x sec : Int) (p : RunPack) : RunPack := RunPack.mk p.Run p.Area (makeP p.Pack (mmP s x sec p))
def lostP (s : SnowSystem) (x sec : Int) (p : RunPack) : Int := runL s x sec p.Run - mmP s x sec p * p.Area
def overP (s : SnowSystem) (x sec : Int) (i : Nat) : Bool := decide ((s.Packs.getD i z_RunPack).Pack.Machine + mmP s x sec (s.Packs.getD i z_RunPack) > 20000)
def takeR (N : Nat) (l : List Pond) (v : Int) : List Pond := ((pond_Take N l v).getD ([], 0)).1
def cntB (w l e f : Int) : Bool := decide (w ≥ 0) && decide (w ≤ 1125899906842624) && (decide (l ≥ 0) && decide (l ≤ 1125899906842624) && (decide (e ≥ 0) && decide (e ≤ 1125899906842624) && (decide (f ≥ 0) && decide (f ≤ 1125899906842624))))
def stepT (N : Nat) (s : SnowSystem) (x sec pw : Int) : SnowSystem :=
  SnowSystem.mk ((takeR N s.Ponds (sumL s x sec)).map (Pn.fillP sec)) s.Pumps s.Pipes s.Kinds s.Guns (s.Packs.map (newP s x sec)) s.Pressure s.Limit (s.Time + sec) (s.Water + sumL s x sec) (s.Lost + (s.Packs.map (lostP s x sec)).sum) (s.Energy + pw * sec) (s.Inflow + Pn.sumW (takeR N s.Ponds (sumL s x sec)) sec)
def stepS (N : Nat) (s : SnowSystem) (x sec w pw : Int) : SnowSystem × Int :=
  bif decide (sec < 1) || (decide (sec > 3600) || (decide (s.Time + sec > 20000000) || (decide (x < -1000) || decide (x > 1000)))) then (z_SnowSystem, 2)
  else bif w != 0 then (z_SnowSystem, w)
  else bif decide (sumL s x sec > Pn.spaI s.Ponds) then (z_SnowSystem, 8)
  else bif (fst (overP s x sec) s.Packs.length).isSome then (z_SnowSystem, 12)
  else bif cntB (stepT N s x sec pw).Water (stepT N s x sec pw).Lost (stepT N s x sec pw).Energy (stepT N s x sec pw).Inflow then (stepT N s x sec pw, 0) else (z_SnowSystem, 12)
theorem mm_bound {N : Nat} {s : SnowSystem} (h : Small s) (hr : RightOk N s) {x sec : Int} (h1 : 1 ≤ sec) (h2 : sec ≤ 3600) {p : RunPack} (hp : PackOk p) : 0 ≤ mmP s x sec p ∧ mmP s x sec p ≤ 1000 ∧ 0 ≤ mmP s x sec p * p.Area ∧ mmP s x sec p * p.Area ≤ runL s x sec p.Run ∧ 0 ≤ runL s x sec p.Run / p.Area ∧ runL s x sec p.Run / p.Area ≤ 18000000 := by
  unfold PackOk at hp
  have hb := runL_bound h hr h1 h2 p.Run (x := x)
  have d0 : 0 ≤ runL s x sec p.Run / p.Area := Int.ediv_nonneg hb.1 (by omega)
  have d1 : runL s x sec p.Run / p.Area * p.Area ≤ runL s x sec p.Run := Int.ediv_mul_le _ (by omega)
  have d2 : runL s x sec p.Run / p.Area ≤ runL s x sec p.Run := Int.ediv_le_self _ hb.1
  have hm : mmP s x sec p ≤ runL s x sec p.Run / p.Area := by unfold mmP; omega
  have hm0 : 0 ≤ mmP s x sec p := by unfold mmP; omega
  have hm1 : mmP s x sec p ≤ 1000 := by unfold mmP; omega
  have d3 : mmP s x sec p * p.Area ≤ runL s x sec p.Run / p.Area * p.Area := Int.mul_le_mul_of_nonneg_right hm (by omega)
  have d4 : 0 ≤ mmP s x sec p * p.Area := Int.mul_nonneg hm0 (by omega)
  omega
theorem lost_bound {N : Nat} {s : SnowSystem} (h : Small s) (hr : RightOk N s) {x sec : Int} (h1 : 1 ≤ sec) (h2 : sec ≤ 3600) {p : RunPack} (hp : PackOk p) : 0 ≤ lostP s x sec p ∧ lostP s x sec p ≤ 18000000 := by
  have a := mm_bound h hr h1 h2 hp (x := x)
  have hb := runL_bound h hr h1 h2 p.Run (x := x)
  unfold lostP
  omega
theorem pack_mem {N : Nat} {s : SnowSystem} (hr : RightOk N s) {p : RunPack} (hp : p ∈ s.Packs) : PackOk p := by
  obtain ⟨i, hi, rfl⟩ := mem_getD z_RunPack hp
  exact hr.packs i hi
section
variable {N : Nat} (hN : 1000 < N)
include hN
theorem take_spec {l : List Pond} (hl : l.length ≤ 8) (ha : ∀ p, p ∈ l → Pn.PondOk p) {v : Int} (h0 : 0 ≤ v) (h1 : v ≤ Pn.spaI l) :
    pond_Take N l v = some (takeR N l v, 0) ∧ Pn.Rel l (takeR N l v) ∧ Pn.totI (takeR N l v) = Pn.totI l - v := by
  by_cases hv : v = 0
  · subst hv
    have e := take0 hN hl ha
    unfold takeR
    rw [e]
    exact ⟨rfl, Pn.rel_refl ha, by simp⟩
  · obtain ⟨o, hS, e⟩ := Pn.take_some hN hl ha (x := v) (by omega) h1
    have hpf := Pn.parts_facts (Pn.good_of hl ha (x := v) (by omega) h1) hS
    have hlen : (Pn.partsOf v (Pn.wsOf l) o).length = l.length := by rw [hpf.1]; simp [Pn.wsOf]
    have hw : ∀ i, i < l.length → (Pn.wsOf l).getD i 0 = (l.getD i z_Pond).Volume - (l.getD i z_Pond).Least := fun i hi => getD_map (fun p : Pond => p.Volume - p.Least) l i z_Pond 0 hi
    have hb : ∀ i, i < l.length → 0 ≤ (Pn.partsOf v (Pn.wsOf l) o).getD i 0 ∧ (Pn.partsOf v (Pn.wsOf l) o).getD i 0 ≤ (l.getD i z_Pond).Volume - (l.getD i z_Pond).Least := fun i hi => by
      have := hpf.2.2 i (by simp [Pn.wsOf]; exact hi)
      rw [hw i hi] at this
      exact ⟨this.2.1, this.2.2⟩
    obtain ⟨r1, r2⟩ := Pn.take_rel ha (Pn.rel_refl ha) hlen hb
    unfold takeR
    rw [e]
    refine ⟨rfl, r1, ?_⟩
    refine r2.trans ?_
    rw [hpf.2.1]
end
end Go.Proofs.YtkhkblihdabnoaaGreat

/- Snowmaking: a step is what stepS says. No condition. -/
namespace Go.Proofs.YtkhkblihdabnoaaGreat
open Go.Cm Go.Proofs
theorem W_of_eq {α : Type} {Q : α → Prop} {a b : Option α} (h : a = b) (hw : W Q b) : W Q a := h ▸ hw
section
variable {N : Nat} (hN : 1000 < N)
include hN
theorem best_nn {l : List Pump} (hl : l.length ≤ 8) (hp : ∀ i, i < l.length → PumpOk (l.getD i z_Pump)) (f : Int) : W (fun r : List Int × Int × Int => 0 ≤ r.2.1 ∧ r.2.1 ≤ 800000000) (pump_Best N l f) := by
  have hnn : ∀ {c : List Int}, c.length ≤ 900 → W (fun r : Int => 0 ≤ r ∧ r ≤ 800000000) (pump_Power N l c) := fun {c} hc => by
    unfold pump_Power
    refine W_bind (Q' := fun r : Int => 0 ≤ r ∧ r ≤ 800000000) ?_ fun r hr => W_some hr
    refine W_loop (fun i s => s.2 = (i : Int) ∧ 0 ≤ s.1 ∧ s.1 ≤ 100000000 * i) l.length ⟨rfl, by simp, by simp⟩ (fun i s hi hI => ?_) (fun s hI => ?_) (by omega)
    · obtain ⟨a, k⟩ := s
      obtain ⟨hk, ha, hb⟩ := hI
      simp only at hk ha hb
      subst hk
      have hpi := hp i hi
      unfold PumpOk at hpi
      simp only [dlt hi, dge, Bool.and_self, cond_true, Int.toNat_natCast, wrapC (show i < 9223372036854775807 by omega)]
      refine W_bind (contains_tot hN hc _) fun r _ => ?_
      rw [wrap64 (z := a + (l.getD i z_Pump).Power) (by omega) (by omega)]
      exact W_bind (Q' := fun r : Int => 0 ≤ r ∧ r ≤ 100000000 * ((i : Int) + 1)) (W_cond (fun _ => W_some (by omega)) (fun _ => W_some (by omega))) fun r hr => W_some ⟨rfl, hr.1, by have := hr.2; simp only; omega⟩
    · obtain ⟨a, k⟩ := s
      obtain ⟨hk, ha, hb⟩ := hI
      simp only at hk ha hb
      subst hk
      simp only [dnlt, cond_false]
      exact W_some ⟨ha, by omega⟩
  have hz : (0 : Int) ≤ 0 ∧ (0 : Int) ≤ 800000000 := by omega
  unfold pump_Best
  refine W_cond (fun _ => W_some hz) (fun _ => W_cond (fun _ => W_some hz) (fun h => ?_))
  rw [shl_small hl]
  have hp2 : 2 ^ l.length ≤ 2 ^ 8 := Nat.pow_le_pow_right (by decide) hl
  have hp' : 2 ^ l.length - 1 < 256 := by have : 2 ^ 8 = 256 := by decide
                                          have : 0 < 2 ^ l.length := Nat.pow_pos (by decide)
                                          omega
  generalize 2 ^ l.length - 1 = a at hp'
  refine W_bind (members_tot hN hp') fun r2 h2 => W_bind (flow_tot hN (by omega) (by omega)) fun r3 _ => W_cond (fun _ => W_some hz) (fun _ => W_bind (hnn (by omega)) fun r4 h4 => ?_)
  refine W_bind (Q' := fun r : List Int × Int => 0 ≤ r.2 ∧ r.2 ≤ 800000000) ?_ fun r hr => W_some hr
  refine W_loop (fun i s => s.2.2 = (i : Int) ∧ s.1.length ≤ 8 ∧ 0 ≤ s.2.1 ∧ s.2.1 ≤ 800000000) a ⟨rfl, h2, h4⟩ (fun i s hi hI => ?_) (fun s hI => ?_) (by omega)
  · obtain ⟨c, lp, k⟩ := s
    obtain ⟨hk, hc, h5⟩ := hI
    simp only at hk hc h5
    subst hk
    simp only [dlt hi, cond_true, wrapC (show i < 9223372036854775807 by omega)]
    refine W_bind (Q' := fun r : List Int × Int => r.1.length ≤ 8 ∧ 0 ≤ r.2 ∧ r.2 ≤ 800000000) ?_ fun r hr => W_some ⟨rfl, hr⟩
    refine W_bind (members_tot hN (show i < 256 by omega)) fun r6 h6 => W_bind (flow_tot hN (by omega) (by omega)) fun r7 _ => W_cond (fun _ => W_some ⟨hc, h5⟩) (fun _ => W_bind (hnn (by omega)) fun r8 h8 => ?_)
    refine W_bind (Q' := fun _ => True) (W_cond (fun _ => W_some trivial) (fun _ => W_cond (fun _ => W_bind (compare_tot hN (by omega)) fun r _ => W_some trivial) (fun _ => W_some trivial))) fun r10 _ => ?_
    exact W_bind (Q' := fun r : List Int × Int => r.1.length ≤ 8 ∧ 0 ≤ r.2 ∧ r.2 ≤ 800000000) (W_cond (fun _ => W_some ⟨h6, h8⟩) (fun _ => W_some ⟨hc, h5⟩)) fun r hr => W_some hr
  · obtain ⟨c, lp, k⟩ := s
    obtain ⟨hk, hc, h5⟩ := hI
    simp only at hk h5
    subst hk
    simp only [dnlt, cond_false]
    exact W_some h5
theorem power_nn {s : SnowSystem} (h : Small s) (hr : RightOk N s) (x : Int) : W (fun r : Int × Int => 0 ≤ r.1) (snowmaking_Power N s x) := by
  have h1 := h.guns
  have h2 := h.kinds
  unfold snowmaking_Power
  rw [Gn.draws_eq hN _ _ _ (by omega) (by omega), Option.bind_some, Gn.power_eq hN _ _ (by omega) (by omega) (Gn.right_zero hr.guns).2.2.1]
  have hd := Gn.draws_len s.Kinds s.Guns x
  have hpb := Gn.pow_bound (Gn.right_zero hr.guns).2.2.1 s.Guns
  refine W_bind (Q' := fun _ => True) ?_ fun r4 _ => W_bind (best_nn hN hr.pumps.1 hr.pumps.2 _) fun r5 h5 => W_cond (fun _ => W_some (Int.le_refl 0)) (fun _ => ?_)
  · refine W_loop (fun i s => s.2 = (i : Int)) (Gn.drawsS s.Kinds s.Guns x).length rfl (fun i s hi hI => ?_) (fun s hI => ?_) (by omega)
    · obtain ⟨a, k⟩ := s
      simp only at hI
      subst hI
      simp only [dlt hi, dge, Bool.and_self, cond_true, wrapC (show i < 9223372036854775807 by omega)]
      exact W_some rfl
    · obtain ⟨a, k⟩ := s
      simp only at hI
      subst hI
      simp only [dnlt, cond_false]
      exact W_some trivial
  · rw [Option.bind_some]
    refine W_some ?_
    show 0 ≤ IntKind.i64.wrap _
    rw [wrap64 (by omega) (by omega)]
    omega
theorem step_eq {s : SnowSystem} (h : Small s) (hr : RightOk N s) {x w pw e : Int} (hw : snowmaking_Why N s x = some w) (hp : snowmaking_Power N s x = some (pw, e)) (sec : Int) (ht : -9000000000000000000 ≤ sec ∧ sec ≤ 9000000000000000000) : snowmaking_Step N s x sec = some (stepS N s x sec w pw) := by
  suffices hs : W (fun r => r = stepS N s x sec w pw) (snowmaking_Step N s x sec) by
    obtain ⟨r, e1, e2⟩ := hs
    rw [e1, e2]
  have hg := h.guns
  have hk := h.kinds
  have hpk := h.packs
  have hrest := hr.rest
  have hcnt := hr.count
  obtain ⟨hpl, _⟩ := (Pn.right_iff s.Ponds).1 hr.ponds
  have hpa := Pn.right_all hr.ponds
  unfold snowmaking_Step
  simp only [cond_or, Option.bind_some, wrap64 (z := s.Time + sec) (by omega) (by omega)]
  unfold stepS
  refine W_cond (fun hb => W_some (by rw [hb]; rfl)) (fun hb => ?_)
  rw [hb, cond_false, hw, Option.bind_some]
  simp only [Bool.or_eq_false_iff, decide_eq_false_iff_not] at hb
  have h1 : 1 ≤ sec := by omega
  have h2 : sec ≤ 3600 := by omega
  refine W_cond (fun hw0 => W_some (by rw [hw0]; rfl)) (fun hw0 => ?_)
  rw [hw0, cond_false]
  have hw1 : w = 0 := by simpa using hw0
  subst hw1
  have hsb := sumL_bound h hr h1 h2 (x := x)
  refine W_bind (Q' := fun r : Int × (Int → Option Int) => r.1 = sumL s x sec ∧ ∀ u, (r.2 u).getD 0 = runL s x sec u) ?_ fun r10 h10 => ?_
  · refine W_loop (fun i st => st.2.1 = (i : Int) ∧ st.1 = ((s.Guns.take i).map (lit s x sec)).sum ∧ ∀ u, (st.2.2 u).getD 0 = ((s.Guns.take i).map (litR s x sec u)).sum) s.Guns.length ⟨rfl, by simp, by simp⟩ (fun i st hi hI => ?_) (fun st hI => ?_) (by omega)
    · obtain ⟨a, k, m⟩ := st
      obtain ⟨hk1, ha, hm⟩ := hI
      simp only at hk1 ha hm
      subst hk1
      have hd : gun_Draws N s.Kinds [s.Guns.getD i z_Gun] x = some (bif Gn.onB (s.Guns.getD i z_Gun) then [Draw.mk (s.Guns.getD i z_Gun).Node (Gn.outS (Gn.kindOf s.Kinds (s.Guns.getD i z_Gun).Kind) x)] else []) := by
        rw [Gn.draws_eq hN _ _ _ (by omega) (by simp)]
        unfold Gn.drawsS
        generalize s.Guns.getD i z_Gun = g
        cases hgo : Gn.onB g <;> simp [hgo]
      have htk : (s.Guns.take i).length ≤ 30 := by simp; omega
      have ba := Pn.sum_bound (lit s x sec) 600000 (s.Guns.take i) fun g _ => lit_bound hr h1 h2 g
      have bm := fun u => Pn.sum_bound (litR s x sec u) 600000 (s.Guns.take i) fun g _ => litR_bound hr h1 h2 u g
      have sa := Pn.sum_step (lit s x sec) s.Guns z_Gun i hi
      have sm := fun u => Pn.sum_step (litR s x sec u) s.Guns z_Gun i hi
      simp only [dlt hi, dge, Bool.and_self, cond_true, Int.toNat_natCast, Option.bind_some, hd, wrapC (show i < 9223372036854775807 by omega)]
      refine W_bind (Q' := fun r : Int × (Int → Option Int) => r.1 = a + lit s x sec (s.Guns.getD i z_Gun) ∧ ∀ u, (r.2 u).getD 0 = (m u).getD 0 + litR s x sec u (s.Guns.getD i z_Gun)) ?_ fun r9 h9 => W_some ⟨rfl, by simp only; rw [h9.1, ha, sa], fun u => by simp only; rw [h9.2, hm, sm]⟩
      cases hgo : Gn.onB (s.Guns.getD i z_Gun) with
      | false =>
        have l0 : lit s x sec (s.Guns.getD i z_Gun) = 0 := by unfold lit; rw [hgo]; rfl
        have l1 : ∀ u, litR s x sec u (s.Guns.getD i z_Gun) = 0 := fun u => by unfold litR; rw [l0]; cases (s.Guns.getD i z_Gun).Run == u <;> rfl
        refine W_loop (fun _ st => st = (a, (0 : Int), m)) 0 rfl (fun i s hi hI => by omega) (fun st hI => ?_) (by omega)
        subst hI
        refine W_some ⟨by simp only [l0, Int.add_zero], fun u => by simp only [l1, Int.add_zero]⟩
      | true =>
        have ol := out_lit hr h1 h2 (s.Guns.getD i z_Gun).Kind (x := x)
        have l0 : lit s x sec (s.Guns.getD i z_Gun) = Gn.outS (Gn.kindOf s.Kinds (s.Guns.getD i z_Gun).Kind) x * sec / 60 := by unfold lit; rw [hgo]; rfl
        have bl := lit_bound hr h1 h2 (s.Guns.getD i z_Gun) (x := x)
        refine W_loop (fun k st => st.2.1 = (k : Int) ∧ (k = 0 → st = (a, (0 : Int), m)) ∧ (k = 1 → st.1 = a + lit s x sec (s.Guns.getD i z_Gun) ∧ ∀ u, (st.2.2 u).getD 0 = (m u).getD 0 + litR s x sec u (s.Guns.getD i z_Gun))) 1 ⟨rfl, fun _ => rfl, fun h => by cases h⟩ (fun k st hk hI => ?_) (fun st hI => ?_) (by omega)
        · have hk0 : k = 0 := by omega
          subst hk0
          have hst := hI.2.1 rfl
          subst hst
          have e1 : ∀ d : Draw, List.getD [d] (Int.toNat ((0 : Nat) : Int)) z_Draw = d := fun d => rfl
          have e2 : ∀ d : Draw, List.getD [d] (Int.toNat 0) z_Draw = d := fun d => rfl
          have c1 : ∀ d : Draw, decide ((0 : Int) < (([d] : List Draw).length : Int)) = true := fun d => by simp
          have c2 : decide ((0 : Int) ≤ 0) = true := by decide
          have c3 : IntKind.i64.wrap ((0 : Int) + 1) = 1 := by decide
          simp only [cond_true, c1, c2, Bool.and_self, e2, ol.1, ← l0, c3]
          have hmr := hm (s.Guns.getD i z_Gun).Run
          have hmb := bm (s.Guns.getD i z_Gun).Run
          rw [wrap64 (z := a + lit s x sec (s.Guns.getD i z_Gun)) (by omega) (by omega), wrap64 (z := (m (s.Guns.getD i z_Gun).Run).getD 0 + lit s x sec (s.Guns.getD i z_Gun)) (by omega) (by omega)]
          refine W_some ⟨rfl, fun h => (by cases h), fun _ => ⟨rfl, fun u => ?_⟩⟩
          simp only
          by_cases hu : u = (s.Guns.getD i z_Gun).Run
          · subst hu
            unfold litR
            simp only [beq_self_eq_true, cond_true, Option.getD_some]
          · have q1 : (u == (s.Guns.getD i z_Gun).Run) = false := by rw [beq_eq_false_iff_ne]; exact hu
            have q2 : ((s.Guns.getD i z_Gun).Run == u) = false := by rw [beq_eq_false_iff_ne]; exact fun h => hu h.symm
            unfold litR
            simp only [q1, q2, cond_false, Int.add_zero]
        · obtain ⟨a', k', m'⟩ := st
          obtain ⟨hk', _, hI⟩ := hI
          simp only at hk'
          subst hk'
          have c1 : ∀ d : Draw, decide (((1 : Nat) : Int) < (([d] : List Draw).length : Int)) = false := fun d => by simp
          simp only [cond_true, c1, cond_false]
          exact W_some (hI rfl)
    · obtain ⟨a, k, m⟩ := st
      obtain ⟨hk1, ha, hm⟩ := hI
      simp only at hk1 ha hm
      subst hk1
      rw [List.take_length] at ha
      simp only [List.take_length] at hm
      simp only [dnlt, cond_false]
      exact W_some ⟨ha, hm⟩
  · obtain ⟨a, m⟩ := r10
    obtain ⟨ha, hm⟩ := h10
    simp only at ha hm
    subst ha
    simp only [Pn.spare_eq hN s.Ponds hpl hpa, Option.bind_some]
    refine W_cond (fun hb => W_some (by rw [hb]; rfl)) (fun hb2 => ?_)
    rw [hb2, cond_false]
    rw [decide_eq_false_iff_not] at hb2
    obtain ⟨pw', hp', hpl'⟩ := why_ok hN h hw
    rw [hp] at hp'
    simp only [Option.some.injEq, Prod.mk.injEq] at hp'
    obtain ⟨rfl, rfl⟩ := hp'
    obtain ⟨r, hr1, hr2⟩ := power_nn hN h hr x
    rw [hp] at hr1
    simp only [Option.some.injEq] at hr1
    rw [← hr1] at hr2
    have hpw : 0 ≤ pw := hr2
    obtain ⟨tk, trel, ttot⟩ := take_spec hN hpl hpa hsb.1 (show sumL s x sec ≤ Pn.spaI s.Ponds by omega)
    have tright := Pn.rel_right hr.ponds trel
    obtain ⟨tl, _⟩ := (Pn.right_iff _).1 tright
    have ta := Pn.right_all tright
    have hf : pond_Fill N (takeR N s.Ponds (sumL s x sec)) sec = some ((takeR N s.Ponds (sumL s x sec)).map (Pn.fillP sec), Pn.sumW (takeR N s.Ponds (sumL s x sec)) sec, 0) := by
      rw [Pn.fill_eq hN _ sec tl]
      unfold Pn.fillS
      have : (decide (sec < 0) || decide (sec > 86400)) = false := by simp only [Bool.or_eq_false_iff, decide_eq_false_iff_not]; omega
      rw [this]; rfl
    have hin : 0 ≤ Pn.sumW (takeR N s.Ponds (sumL s x sec)) sec ∧ Pn.sumW (takeR N s.Ponds (sumL s x sec)) sec ≤ 8000000000 := by
      rw [Pn.sumW_eq tl ta (by omega) (by omega)]
      have := Pn.sum_bound (fun p => Pn.fillI p sec) 1000000000 (takeR N s.Ponds (sumL s x sec)) fun p hp => by
        have q2 := ta p hp
        have q3 := Pn.fillI_bound q2 (t := sec) (by omega)
        unfold Pn.PondOk at q2
        omega
      omega
    have k1 : 0 ≤ pw * sec := Int.mul_nonneg hpw (by omega)
    have k2 : pw * sec ≤ 1000000000 * 3600 := Int.mul_le_mul (by omega) h2 (by omega) (by omega)
    simp only [hp, Option.bind_some, bne_self_eq_false, cond_false, copy_eq hN h, tk, hf, wrap64 (z := pw * sec) (by omega) (by omega), wrap64 (z := s.Energy + pw * sec) (by omega) (by omega), wrap64 (z := s.Water + sumL s x sec) (by omega) (by omega), wrap64 (z := s.Inflow + Pn.sumW (takeR N s.Ponds (sumL s x sec)) sec) (by omega) (by omega), hm]
    have hml : (s.Packs.map (newP s x sec)).length = s.Packs.length := by simp
    have hlb : ∀ i, 0 ≤ ((s.Packs.take i).map (lostP s x sec)).sum ∧ ((s.Packs.take i).map (lostP s x sec)).sum ≤ 18000000 * 30 := fun i => by
      have := Pn.sum_bound (lostP s x sec) 18000000 (s.Packs.take i) fun p hp => lost_bound h hr h1 h2 (pack_mem hr (List.mem_of_mem_take hp))
      have : (s.Packs.take i).length ≤ 30 := by simp; omega
      omega
    refine W_of_eq (bindS (fun i => ((i : Int), z_SnowSystem, SnowSystem.mk ((takeR N s.Ponds (sumL s x sec)).map (Pn.fillP sec)) s.Pumps s.Pipes s.Kinds s.Guns [] s.Pressure s.Limit s.Time (s.Water + sumL s x sec) (s.Lost + ((s.Packs.take i).map (lostP s x sec)).sum) (s.Energy + pw * sec) (s.Inflow + Pn.sumW (takeR N s.Ponds (sumL s x sec)) sec), mixd (s.Packs.map (newP s x sec)) s.Packs i))
        (by simp [mixd_zero]) (overP s x sec) (fun i => ((12 : Int), z_SnowSystem, SnowSystem.mk ((takeR N s.Ponds (sumL s x sec)).map (Pn.fillP sec)) s.Pumps s.Pipes s.Kinds s.Guns [] s.Pressure s.Limit s.Time (s.Water + sumL s x sec) (s.Lost + ((s.Packs.take i).map (lostP s x sec)).sum) (s.Energy + pw * sec) (s.Inflow + Pn.sumW (takeR N s.Ponds (sumL s x sec)) sec), mixd (s.Packs.map (newP s x sec)) s.Packs i))
        (z_SnowSystem, SnowSystem.mk ((takeR N s.Ponds (sumL s x sec)).map (Pn.fillP sec)) s.Pumps s.Pipes s.Kinds s.Guns [] s.Pressure s.Limit s.Time (s.Water + sumL s x sec) (s.Lost + (s.Packs.map (lostP s x sec)).sum) (s.Energy + pw * sec) (s.Inflow + Pn.sumW (takeR N s.Ponds (sumL s x sec)) sec), s.Packs.map (newP s x sec)) s.Packs.length (show s.Packs.length < N by omega) (fun i hi _ => ?_) (fun _ => ?_)) ?_
    · have hpo := hr.packs i hi
      have hpk' : PkOk (s.Packs.getD i z_RunPack).Pack := hpo.2.2.2.2
      have hmm := mm_bound h hr h1 h2 hpo (x := x)
      have hlo := lost_bound h hr h1 h2 hpo (x := x)
      have hrl := runL_bound h hr h1 h2 (s.Packs.getD i z_RunPack).Run (x := x)
      have hlbi := hlb i
      have hls := Pn.sum_step (lostP s x sec) s.Packs z_RunPack i hi
      have har : ((s.Packs.getD i z_RunPack).Area != 0) = true := by unfold PackOk at hpo; rw [bne_iff_ne]; omega
      have hdiv : min (1000 : Int) (IntKind.i64.wrap ((runL s x sec (s.Packs.getD i z_RunPack).Run).tdiv (s.Packs.getD i z_RunPack).Area)) = mmP s x sec (s.Packs.getD i z_RunPack) := by
        rw [Int.tdiv_eq_ediv_of_nonneg hrl.1, wrap64 (by omega) (by omega)]
        rfl
      have hset : (mixd (s.Packs.map (newP s x sec)) s.Packs i).set i (RunPack.mk (s.Packs.getD i z_RunPack).Run (s.Packs.getD i z_RunPack).Area (makeP (s.Packs.getD i z_RunPack).Pack (mmP s x sec (s.Packs.getD i z_RunPack)))) = mixd (s.Packs.map (newP s x sec)) s.Packs (i + 1) := by
        rw [← mixd_set hml hi (newP s x sec (s.Packs.getD i z_RunPack)) z_RunPack (getD_map _ _ _ _ _ hi).symm]
        rfl
      simp only [dlt hi, dge, Bool.and_self, cond_true, Int.toNat_natCast, mixd_len hml, mixd_getD hml hi, har, hdiv, make_eq hpk' hmm.1 hmm.2.1, Option.bind_some, wrapC (show i < 9223372036854775807 by omega)]
      cases hov : overP s x sec i with
      | true =>
        have : decide ((s.Packs.getD i z_RunPack).Pack.Machine + mmP s x sec (s.Packs.getD i z_RunPack) > 20000) = true := hov
        simp only [this, cond_true]
        rfl
      | false =>
        have : decide ((s.Packs.getD i z_RunPack).Pack.Machine + mmP s x sec (s.Packs.getD i z_RunPack) > 20000) = false := hov
        have hl1 : IntKind.i64.wrap (runL s x sec (s.Packs.getD i z_RunPack).Run - IntKind.i64.wrap (mmP s x sec (s.Packs.getD i z_RunPack) * (s.Packs.getD i z_RunPack).Area)) = lostP s x sec (s.Packs.getD i z_RunPack) := by
          rw [wrap64 (z := mmP s x sec (s.Packs.getD i z_RunPack) * (s.Packs.getD i z_RunPack).Area) (by omega) (by omega), wrap64 (by omega) (by omega)]
          rfl
        simp only [this, cond_false, bne_self_eq_false, hset, hl1, hls]
        rw [wrap64 (z := s.Lost + ((s.Packs.take i).map (lostP s x sec)).sum + lostP s x sec (s.Packs.getD i z_RunPack)) (by omega) (by omega), Int.add_assoc]
    · have hma := mixd_all hml
      simp only [dnlt, cond_false, List.take_length, hma]
    · cases hf : fst (overP s x sec) s.Packs.length with
      | some i => exact W_some rfl
      | none =>
        simp only [sres, Sum.elim_inl, counters_eq, Option.bind_some]
        refine W_cond (fun hc => W_some ?_) (fun hc => W_some ?_)
        · have hc' : cntB (stepT N s x sec pw).Water (stepT N s x sec pw).Lost (stepT N s x sec pw).Energy (stepT N s x sec pw).Inflow = false := by
            rw [Bool.not_eq_true'] at hc
            exact hc
          rw [hc']; rfl
        · have hc' : cntB (stepT N s x sec pw).Water (stepT N s x sec pw).Lost (stepT N s x sec pw).Energy (stepT N s x sec pw).Inflow = true := by
            rw [Bool.not_eq_false'] at hc
            exact hc
          rw [hc']
          simp only [Option.isSome_none, cond_false, cond_true, wrap64 (z := s.Time + sec) (by omega) (by omega)]
          rfl
end
end Go.Proofs.YtkhkblihdabnoaaGreat

/- Snowmaking: Right and Switch exactly; what calls keep. No condition. -/
namespace Go.Proofs.YtkhkblihdabnoaaGreat
open Go.Cm Go.Proofs
def badPk (p : RunPack) : Bool := decide (p.Run < 1) || (decide (p.Run > 9999) || (decide (p.Area < 1) || (decide (p.Area > 10000000) || !(decide (0 ≤ p.Pack.Natural) && decide (p.Pack.Natural ≤ 20000) && (decide (0 ≤ p.Pack.Machine) && decide (p.Pack.Machine ≤ 20000) && (decide (50 ≤ p.Pack.Density) && decide (p.Pack.Density ≤ 900)))))))
def errPk (l : List RunPack) (i : Nat) : Int := bif badPk (l.getD i z_RunPack) then 2 else bif decide (0 < i) && decide ((l.getD i z_RunPack).Run ≤ (l.getD (i - 1) z_RunPack).Run) then 11 else 0
def hasPack (l : List RunPack) (u : Int) : Bool := (fst (fun j => (l.getD j z_RunPack).Run == u) l.length).isSome
def hasNode (l : List Pipe) (u : Int) : Bool := (fst (fun j => (l.getD j z_Pipe).To == u) l.length).isSome
def errLk (s : SnowSystem) (i : Nat) : Bool := !(hasPack s.Packs (s.Guns.getD i z_Gun).Run && hasNode s.Pipes (s.Guns.getD i z_Gun).Node)
def restB (s : SnowSystem) : Bool := (decide (s.Pressure ≥ 0) && decide (s.Pressure ≤ 10000000)) && ((decide (s.Limit ≥ 0) && decide (s.Limit ≤ 1000000000)) && ((decide (s.Time ≥ 0) && decide (s.Time ≤ 20000000)) && cntB s.Water s.Lost s.Energy s.Inflow))
def rightT (s : SnowSystem) : Int := match fst (fun i => errPk s.Packs i != 0) s.Packs.length with
  | some i => errPk s.Packs i
  | none => bif (fst (errLk s) s.Guns.length).isSome then 8 else bif restB s then 0 else 2
def rightSS (r2 r3 : Int) (s : SnowSystem) : Int := bif Pn.rightS s.Ponds != 0 then Pn.rightS s.Ponds else bif r2 != 0 then r2 else bif r3 != 0 then r3 else bif Gn.rightS s.Kinds s.Guns != 0 then Gn.rightS s.Kinds s.Guns else rightT s
def Link (s : SnowSystem) : Prop := ∀ i, i < s.Guns.length → hasPack s.Packs (s.Guns.getD i z_Gun).Run = true ∧ hasNode s.Pipes (s.Guns.getD i z_Gun).Node = true
theorem pack_ok_iff (p : RunPack) : badPk p = false ↔ PackOk p := by
  unfold badPk PackOk
  simp only [Bool.or_eq_false_iff, Bool.not_eq_false', Bool.and_eq_true, decide_eq_true_eq, decide_eq_false_iff_not]
  omega
section
variable {N : Nat} (hN : 1000 < N)
include hN
theorem right_eq {s : SnowSystem} (h : Small s) {r2 r3 : Int} (e2 : pump_Right N s.Pumps = some r2) (e3 : pipe_Right N s.Pipes = some r3) : snowmaking_Right N s = some (rightSS r2 r3 s) := by
  have h1 := h.guns
  have h2 := h.kinds
  have h3 := h.pipes
  have h4 := h.packs
  unfold snowmaking_Right rightSS
  rw [Pn.pright_eq hN, Gn.gright_eq hN, e2, e3]
  simp only [Option.bind_some]
  cases Pn.rightS s.Ponds != 0 with
  | true => rfl
  | false =>
  cases r2 != 0 with
  | true => rfl
  | false =>
  cases r3 != 0 with
  | true => rfl
  | false =>
  cases Gn.rightS s.Kinds s.Guns != 0 with
  | true => rfl
  | false =>
  have c1 : decide ((s.Packs.length : Int) > 64) = false := by rw [decide_eq_false_iff_not]; omega
  simp only [cond_false, c1]
  unfold rightT
  rw [search (fun i => errPk s.Packs i != 0) (fun i => errPk s.Packs i) () s.Packs.length (by omega) (fun i hi => ?_) (by simp)]
  · cases fst (fun i => errPk s.Packs i != 0) s.Packs.length with
    | some i => rfl
    | none =>
      simp only [Option.bind_some, sres, Sum.elim_inl]
      rw [search (errLk s) (fun _ => (8 : Int)) () s.Guns.length (by omega) (fun i hi => ?_) (by simp)]
      · cases fst (errLk s) s.Guns.length with
        | some i => rfl
        | none =>
          simp only [Option.bind_some, sres, Sum.elim_inl, upTo_eq, counters_eq, cond_or, Option.isSome_none, cond_false]
          have : (!(decide (s.Pressure ≥ 0) && decide (s.Pressure ≤ 10000000)) || (!(decide (s.Limit ≥ 0) && decide (s.Limit ≤ 1000000000)) || (!(decide (s.Time ≥ 0) && decide (s.Time ≤ 20000000)) || !(decide (s.Water ≥ 0) && decide (s.Water ≤ 1125899906842624) && (decide (s.Lost ≥ 0) && decide (s.Lost ≤ 1125899906842624) && (decide (s.Energy ≥ 0) && decide (s.Energy ≤ 1125899906842624) && (decide (s.Inflow ≥ 0) && decide (s.Inflow ≤ 1125899906842624)))))))) = !restB s := by
            unfold restB cntB
            simp only [Bool.not_and]
          rw [this]
          cases restB s <;> rfl
      · simp only [dlt hi, dge, Bool.and_self, cond_true, Int.toNat_natCast, wrapN (show i < 9223372036854775807 by omega)]
        unfold errLk hasPack hasNode
        rw [search (fun j => (s.Packs.getD j z_RunPack).Run == (s.Guns.getD i z_Gun).Run) (fun j => (j : Int)) () s.Packs.length (by omega) (fun j hj => ?_) (by simp)]
        · cases fst (fun j => (s.Packs.getD j z_RunPack).Run == (s.Guns.getD i z_Gun).Run) s.Packs.length with
          | none => rfl
          | some k =>
            have c2 : decide ((k : Int) ≥ 0) = true := by simp
            simp only [Option.bind_some, sres, Sum.elim_inr, c2, Bool.not_true, cond_false, Option.isSome_some, Bool.true_and]
            rw [search (fun j => (s.Pipes.getD j z_Pipe).To == (s.Guns.getD i z_Gun).Node) (fun j => (j : Int)) () s.Pipes.length (by omega) (fun j hj => ?_) (by simp)]
            · cases fst (fun j => (s.Pipes.getD j z_Pipe).To == (s.Guns.getD i z_Gun).Node) s.Pipes.length with
              | none => rfl
              | some k =>
                have c2 : decide ((k : Int) ≥ 0) = true := by simp
                simp only [Option.bind_some, sres, Sum.elim_inr, c2, Bool.not_true, cond_false, Option.isSome_some]
            · simp only [dlt hj, dge, Bool.and_self, cond_true, Int.toNat_natCast, wrapN (show j < 9223372036854775807 by omega)]
        · simp only [dlt hj, dge, Bool.and_self, cond_true, Int.toNat_natCast, wrapN (show j < 9223372036854775807 by omega)]
  · simp only [dlt hi, dge, Bool.and_self, cond_true, Int.toNat_natCast, packRight_eq, Option.bind_some, cond_or, wrapN (show i < 9223372036854775807 by omega)]
    have hb : (decide ((s.Packs.getD i z_RunPack).Run < 1) || (decide ((s.Packs.getD i z_RunPack).Run > 9999) || (decide ((s.Packs.getD i z_RunPack).Area < 1) || (decide ((s.Packs.getD i z_RunPack).Area > 10000000) || !(decide (0 ≤ (s.Packs.getD i z_RunPack).Pack.Natural) && decide ((s.Packs.getD i z_RunPack).Pack.Natural ≤ 20000) && (decide (0 ≤ (s.Packs.getD i z_RunPack).Pack.Machine) && decide ((s.Packs.getD i z_RunPack).Pack.Machine ≤ 20000) && (decide (50 ≤ (s.Packs.getD i z_RunPack).Pack.Density) && decide ((s.Packs.getD i z_RunPack).Pack.Density ≤ 900)))))))) = badPk (s.Packs.getD i z_RunPack) := rfl
    rw [hb]
    unfold errPk
    cases badPk (s.Packs.getD i z_RunPack) with
    | true => rfl
    | false =>
      cases i with
      | zero => rfl
      | succ k =>
        have g1 : decide (((k + 1 : Nat) : Int) > 0) = true := by simp
        have g2 : decide (0 < k + 1) = true := by simp
        simp only [g1, g2, cond_true, cond_false, wrapS (show k < 9223372036854775807 by omega), dge, dlt (show k < s.Packs.length by omega), Bool.and_self, Int.toNat_natCast, Option.bind_some, Bool.true_and, Nat.add_sub_cancel]
        cases decide ((s.Packs.getD (k + 1) z_RunPack).Run ≤ (s.Packs.getD k z_RunPack).Run) <;> rfl
theorem right_fwd {s : SnowSystem} (h : Small s) (h0 : snowmaking_Right N s = some 0) : RightOk N s ∧ Link s := by
  obtain ⟨r, e, hr⟩ := right_spec hN h
  have hr : RightOk N s := hr (by rw [h0] at e; exact (Option.some.inj e).symm)
  refine ⟨hr, ?_⟩
  rw [right_eq hN h hr.pumpR hr.pipeR, Option.some.injEq] at h0
  unfold rightSS at h0
  rw [hr.ponds, hr.guns] at h0
  have h0 : rightT s = 0 := h0
  unfold rightT at h0
  have he : ∀ i, i < s.Packs.length → errPk s.Packs i = 0 := fun i hi => by
    unfold errPk
    rw [(pack_ok_iff _).2 (hr.packs i hi)]
    cases i with
    | zero => rfl
    | succ k =>
      have := hr.incr k hi
      have : decide ((s.Packs.getD (k + 1) z_RunPack).Run ≤ (s.Packs.getD (k + 1 - 1) z_RunPack).Run) = false := by rw [decide_eq_false_iff_not, Nat.add_sub_cancel]; omega
      rw [this, Bool.and_false]
      rfl
  rw [fst_none.2 fun i hi => by simp [he i hi]] at h0
  simp only at h0
  intro i hi
  cases hf : fst (errLk s) s.Guns.length with
  | some k => rw [hf] at h0; cases h0
  | none =>
    have := fst_none.1 hf i hi
    unfold errLk at this
    rw [Bool.not_eq_false', Bool.and_eq_true] at this
    exact this
theorem right_back {s : SnowSystem} (h : Small s) (hr : RightOk N s) (hl : Link s) : snowmaking_Right N s = some 0 := by
  rw [right_eq hN h hr.pumpR hr.pipeR]
  unfold rightSS
  rw [hr.ponds, hr.guns]
  show some (rightT s) = some 0
  unfold rightT
  have he : ∀ i, i < s.Packs.length → errPk s.Packs i = 0 := fun i hi => by
    unfold errPk
    rw [(pack_ok_iff _).2 (hr.packs i hi)]
    cases i with
    | zero => rfl
    | succ k =>
      have := hr.incr k hi
      have : decide ((s.Packs.getD (k + 1) z_RunPack).Run ≤ (s.Packs.getD (k + 1 - 1) z_RunPack).Run) = false := by rw [decide_eq_false_iff_not, Nat.add_sub_cancel]; omega
      rw [this, Bool.and_false]
      rfl
  rw [fst_none.2 fun i hi => by simp [he i hi]]
  simp only
  rw [fst_none.2 fun i hi => by unfold errLk; rw [(hl i hi).1, (hl i hi).2]; rfl]
  have : restB s = true := by
    have := hr.rest
    have := hr.count
    unfold restB cntB
    simp only [Bool.and_eq_true, decide_eq_true_eq]
    omega
  rw [this]
  rfl
end
/-! Switch -/
def withGun (s : SnowSystem) (i : Nat) (g : Gun) : SnowSystem := SnowSystem.mk s.Ponds s.Pumps s.Pipes s.Kinds (s.Guns.set i g) s.Packs s.Pressure s.Limit s.Time s.Water s.Lost s.Energy s.Inflow
def turnS (on : Bool) (g : Gun) (t : Int) : Gun × Int := bif on then Gn.startS g t else Gn.stopS g t
section
variable {N : Nat} (hN : 1000 < N)
include hN
theorem switch_eq {s : SnowSystem} (h : Small s) (id x : Int) (on : Bool) : snowmaking_Switch N s id on x =
    match fst (fun i => (s.Guns.getD i z_Gun).ID == id) s.Guns.length with
    | none => some (z_SnowSystem, 8)
    | some i => bif (turnS on (s.Guns.getD i z_Gun) s.Time).2 != 0 then some (z_SnowSystem, (turnS on (s.Guns.getD i z_Gun) s.Time).2)
      else bif on then (snowmaking_Why N (withGun s i (turnS on (s.Guns.getD i z_Gun) s.Time).1) x).bind fun w => bif w != 0 then some (z_SnowSystem, w) else some (withGun s i (turnS on (s.Guns.getD i z_Gun) s.Time).1, 0)
      else some (withGun s i (turnS on (s.Guns.getD i z_Gun) s.Time).1, 0) := by
  have h1 := h.guns
  unfold snowmaking_Switch
  rw [search (fun i => (s.Guns.getD i z_Gun).ID == id) (fun i => (i : Int)) () s.Guns.length (by omega) (fun i hi => ?_) (by simp)]
  · cases hf : fst (fun i => (s.Guns.getD i z_Gun).ID == id) s.Guns.length with
    | none => rfl
    | some i =>
      obtain ⟨hi, hid, _⟩ := fst_some.1 hf
      have g0 : decide ((i : Int) < 0) = false := by rw [decide_eq_false_iff_not]; omega
      simp only [Option.bind_some, sres, Sum.elim_inr, g0, cond_false, dge, dlt hi, Bool.and_self, Int.toNat_natCast, Gn.start_eq, Gn.stop_eq, copy_eq hN h, cond_true]
      cases on with
      | true =>
        simp only [cond_true, turnS]
        cases (Gn.startS (s.Guns.getD i z_Gun) s.Time).2 != 0 with
        | true => rfl
        | false =>
          simp only [cond_false]
          unfold withGun
          cases snowmaking_Why N (SnowSystem.mk s.Ponds s.Pumps s.Pipes s.Kinds (s.Guns.set i (Gn.startS (s.Guns.getD i z_Gun) s.Time).1) s.Packs s.Pressure s.Limit s.Time s.Water s.Lost s.Energy s.Inflow) x with
          | none => rfl
          | some w => simp only [Option.bind_some]; cases w != 0 <;> rfl
      | false =>
        simp only [cond_false, turnS, Option.bind_some, Sum.elim_inl]
        cases (Gn.stopS (s.Guns.getD i z_Gun) s.Time).2 != 0 <;> rfl
  · simp only [dlt hi, dge, Bool.and_self, cond_true, Int.toNat_natCast, wrapN (show i < 9223372036854775807 by omega)]
end
/-- the guns stay right -/
theorem guns_right {ks : List GunKind} {l l' : List Gun} (h : Gn.rightS ks l = 0) (hl : l'.length = l.length) (hs : ∀ j, j < l.length → (l'.getD j z_Gun).ID = (l.getD j z_Gun).ID ∧ (l'.getD j z_Gun).Kind = (l.getD j z_Gun).Kind ∧ Gn.inRangeS (l'.getD j z_Gun) = true) : Gn.rightS ks l' = 0 := by
  obtain ⟨a, b, c, d⟩ := Gn.right_zero h
  refine Gn.right_of a (by omega) c fun i hi => ?_
  rw [hl] at hi
  obtain ⟨q1, q2, q3⟩ := hs i hi
  have := d i hi
  unfold Gn.errG at this ⊢
  have hseen : Gn.seenG l' i (l'.getD i z_Gun).ID = Gn.seenG l i (l.getD i z_Gun).ID := by
    unfold Gn.seenG
    rw [q1, fst_congr fun j hj => ?_]
    rw [(hs j (by omega)).1]
  rw [hseen, q2, q3]
  cases hq : Gn.inRangeS (l.getD i z_Gun) with
  | false => rw [hq] at this; cases this
  | true => rw [hq] at this; exact this
theorem guns_in {ks : List GunKind} {l : List Gun} (h : Gn.rightS ks l = 0) {i : Nat} (hi : i < l.length) : Gn.inRangeS (l.getD i z_Gun) = true := by
  have := (Gn.right_zero h).2.2.2 i hi
  unfold Gn.errG at this
  cases hq : Gn.inRangeS (l.getD i z_Gun) with
  | false => rw [hq] at this; cases this
  | true => rfl
theorem turn_did {on : Bool} {g g' : Gun} {t : Int} (h : Gn.inRangeS g = true) (ht : turnS on g t = (g', 0)) : ∃ st, g' = Gun.mk g.ID g.Node g.Run g.Kind st t g.On g.Off ∧ 0 ≤ st ∧ st ≤ 2 ∧ t ≤ 20000000 ∧ g.Since ≤ t := by
  have hr := Gn.range_spec h
  have key : ∀ st least, 0 ≤ st → st ≤ 2 → 0 ≤ least ∧ least ≤ 86400 → Gn.becS g st t least = (g', 0) → ∃ st, g' = Gun.mk g.ID g.Node g.Run g.Kind st t g.On g.Off ∧ 0 ≤ st ∧ st ≤ 2 ∧ t ≤ 20000000 ∧ g.Since ≤ t := fun st least h1 h2 h3 hb => by
    rcases Gn.bec_did g st t least h h3 with ⟨_, q⟩ | ⟨q, q1, q2, q3⟩
    · rw [hb] at q; exact absurd rfl q
    · rw [hb] at q
      exact ⟨st, (Prod.mk.inj q).1, h1, h2, q2, q1⟩
  unfold turnS at ht
  cases on with
  | true =>
    simp only [cond_true] at ht
    unfold Gn.startS at ht
    cases hq : g.State != 0 with
    | true => rw [hq] at ht; simp at ht
    | false => rw [hq] at ht; exact key 1 g.Off (by omega) (by omega) (by omega) ht
  | false =>
    simp only [cond_false] at ht
    unfold Gn.stopS at ht
    cases hq : g.State != 1 with
    | true => rw [hq] at ht; simp at ht
    | false => rw [hq] at ht; exact key 0 g.On (by omega) (by omega) (by omega) ht
/-! what calls keep -/
def mI (l : List RunPack) : Int := (l.map fun p => p.Pack.Machine * p.Area).sum
structure Kept (N : Nat) (s t : SnowSystem) : Prop where
  sm : Small t
  ok : RightOk N t
  lnk : Link t
  guns : t.Guns.length = s.Guns.length
  ponds : Pn.Rel s.Ponds t.Ponds
  packl : t.Packs.length = s.Packs.length
  packs : ∀ i, i < s.Packs.length → (t.Packs.getD i z_RunPack).Run = (s.Packs.getD i z_RunPack).Run ∧ (t.Packs.getD i z_RunPack).Area = (s.Packs.getD i z_RunPack).Area ∧ (t.Packs.getD i z_RunPack).Pack.Natural = (s.Packs.getD i z_RunPack).Pack.Natural ∧ (s.Packs.getD i z_RunPack).Pack.Machine ≤ (t.Packs.getD i z_RunPack).Pack.Machine
  more : s.Energy ≤ t.Energy ∧ s.Water ≤ t.Water ∧ s.Lost ≤ t.Lost ∧ s.Inflow ≤ t.Inflow
  snow : t.Water - t.Lost - mI t.Packs = s.Water - s.Lost - mI s.Packs
  pond : Pn.totI t.Ponds - t.Inflow + t.Water = Pn.totI s.Ponds - s.Inflow + s.Water
theorem kept_refl {N : Nat} {s : SnowSystem} (h : Small s) (hr : RightOk N s) (hl : Link s) : Kept N s s :=
  ⟨h, hr, hl, rfl, Pn.rel_refl (Pn.right_all hr.ponds), rfl, fun i _ => ⟨rfl, rfl, rfl, Int.le_refl _⟩, ⟨Int.le_refl _, Int.le_refl _, Int.le_refl _, Int.le_refl _⟩, rfl, rfl⟩
theorem kept_trans {N : Nat} {s t u : SnowSystem} (h1 : Kept N s t) (h2 : Kept N t u) : Kept N s u := by
  refine ⟨h2.sm, h2.ok, h2.lnk, h2.guns.trans h1.guns, ⟨h2.ponds.1.trans h1.ponds.1, fun k hk => ?_⟩, h2.packl.trans h1.packl, fun i hi => ?_, ?_, h2.snow.trans h1.snow, h2.pond.trans h1.pond⟩
  · have a := h1.ponds.2 k hk
    have b := h2.ponds.2 k (by rw [h1.ponds.1]; exact hk)
    omega
  · have a := h1.packs i hi
    have b := h2.packs i (by rw [h1.packl]; exact hi)
    omega
  · have a := h1.more
    have b := h2.more
    omega
theorem kept_gun {N : Nat} {s : SnowSystem} (h : Small s) (hr : RightOk N s) (hl : Link s) {i : Nat} (hi : i < s.Guns.length) {on : Bool} {g : Gun} (ht : turnS on (s.Guns.getD i z_Gun) s.Time = (g, 0)) : Kept N s (withGun s i g) := by
  obtain ⟨st, hg, h1, h2, h3, h4⟩ := turn_did (guns_in hr.guns hi) ht
  have hrest := hr.rest
  have hget : ∀ j, j < s.Guns.length → ((s.Guns.set i g).getD j z_Gun).ID = (s.Guns.getD j z_Gun).ID ∧ ((s.Guns.set i g).getD j z_Gun).Kind = (s.Guns.getD j z_Gun).Kind ∧ ((s.Guns.set i g).getD j z_Gun).Run = (s.Guns.getD j z_Gun).Run ∧ ((s.Guns.set i g).getD j z_Gun).Node = (s.Guns.getD j z_Gun).Node ∧ Gn.inRangeS ((s.Guns.set i g).getD j z_Gun) = true := fun j hj => by
    rw [getD_set _ _ _ _ _ hi]
    by_cases hij : i = j
    · subst hij
      rw [if_pos rfl, hg]
      refine ⟨rfl, rfl, rfl, rfl, Gn.range_of ?_⟩
      have := Gn.range_spec (guns_in hr.guns hi)
      simp only
      omega
    · rw [if_neg hij]
      exact ⟨rfl, rfl, rfl, rfl, guns_in hr.guns hj⟩
  have hlen : (withGun s i g).Guns.length = s.Guns.length := by simp [withGun]
  refine ⟨⟨h.ponds, h.pumps, h.pipes, by rw [hlen]; exact h.guns, h.packs, h.kinds, h.outs⟩, ⟨hr.ponds, hr.pumps, hr.pumpR, hr.pipeR, ?_, hr.packs, hr.incr, hr.rest, hr.count⟩, fun j hj => ?_, hlen, Pn.rel_refl (Pn.right_all hr.ponds), rfl, fun i _ => ⟨rfl, rfl, rfl, Int.le_refl _⟩, ⟨Int.le_refl _, Int.le_refl _, Int.le_refl _, Int.le_refl _⟩, rfl, rfl⟩
  · exact guns_right hr.guns hlen fun j hj => ⟨(hget j hj).1, (hget j hj).2.1, (hget j hj).2.2.2.2⟩
  · rw [hlen] at hj
    have := hl j hj
    have q := hget j hj
    show hasPack s.Packs ((s.Guns.set i g).getD j z_Gun).Run = true ∧ hasNode s.Pipes ((s.Guns.set i g).getD j z_Gun).Node = true
    rw [q.2.2.1, q.2.2.2.1]
    exact this
end Go.Proofs.YtkhkblihdabnoaaGreat

/- Snowmaking: what a step keeps; what any calls keep. No condition. -/
namespace Go.Proofs.YtkhkblihdabnoaaGreat
open Go.Cm Go.Proofs
theorem sum_add {α : Type} (f g : α → Int) (l : List α) : (l.map fun a => f a + g a).sum = (l.map f).sum + (l.map g).sum := by
  induction l with
  | nil => rfl
  | cons a l ih => simp only [List.map_cons, List.sum_cons, ih]; omega
theorem sum_sub {α : Type} (f g : α → Int) (l : List α) : (l.map fun a => f a - g a).sum = (l.map f).sum - (l.map g).sum := by
  induction l with
  | nil => rfl
  | cons a l ih => simp only [List.map_cons, List.sum_cons, ih]; omega
theorem sum_zero {α : Type} (f : α → Int) (l : List α) (h : ∀ a, a ∈ l → f a = 0) : (l.map f).sum = 0 := by
  induction l with
  | nil => rfl
  | cons a l ih => rw [List.map_cons, List.sum_cons, h a (List.mem_cons_self), ih fun b hb => h b (List.mem_cons_of_mem _ hb)]; rfl
theorem sum_congr {α : Type} {f g : α → Int} {l : List α} (h : ∀ a, a ∈ l → f a = g a) : (l.map f).sum = (l.map g).sum := by
  rw [List.map_congr_left h]
theorem sum_swap {α β : Type} (f : α → β → Int) (l : List α) (m : List β) : (l.map fun a => (m.map fun b => f a b).sum).sum = (m.map fun b => (l.map fun a => f a b).sum).sum := by
  induction l with
  | nil => simp only [List.map_nil, List.sum_nil]; exact (sum_zero _ m fun _ _ => rfl).symm
  | cons a l ih =>
    simp only [List.map_cons, List.sum_cons, ih]
    rw [sum_add]
theorem one_pack (u c : Int) : ∀ (l : List RunPack), l.Pairwise (fun a b => a.Run < b.Run) → (∃ p, p ∈ l ∧ p.Run = u) → (l.map fun p => bif u == p.Run then c else 0).sum = c
  | [], _, h => by obtain ⟨p, hp, _⟩ := h; cases hp
  | p :: l, hp, h => by
    rw [List.pairwise_cons] at hp
    rw [List.map_cons, List.sum_cons]
    by_cases hu : u = p.Run
    · subst hu
      rw [sum_zero _ l fun q hq => by
        have := hp.1 q hq
        have : (p.Run == q.Run) = false := by rw [beq_eq_false_iff_ne]; omega
        rw [this]; rfl]
      simp
    · have h1 : (u == p.Run) = false := by rw [beq_eq_false_iff_ne]; exact hu
      rw [h1, one_pack u c l hp.2 (by
        obtain ⟨q, hq, e⟩ := h
        rcases List.mem_cons.1 hq with rfl | hq
        · exact absurd e.symm hu
        · exact ⟨q, hq, e⟩)]
      simp
theorem packs_pw {l : List RunPack} (h : ∀ i, i + 1 < l.length → (l.getD i z_RunPack).Run < (l.getD (i + 1) z_RunPack).Run) : l.Pairwise (fun a b => a.Run < b.Run) := by
  have key : ∀ d i, i + (d + 1) < l.length → (l.getD i z_RunPack).Run < (l.getD (i + (d + 1)) z_RunPack).Run := fun d => by
    induction d with
    | zero => exact fun i hi => h i hi
    | succ d ih =>
      intro i hi
      have a := ih i (by omega)
      have b := h (i + (d + 1)) (by omega)
      have : i + (d + 1) + 1 = i + (d + 1 + 1) := by omega
      rw [this] at b
      omega
  rw [List.pairwise_iff_getElem]
  intro i j hi hj hij
  obtain ⟨d, rfl⟩ : ∃ d, j = i + (d + 1) := ⟨j - i - 1, by omega⟩
  have := key d i hj
  simpa [List.getD, List.getElem?_eq_getElem hi, List.getElem?_eq_getElem hj] using this
theorem runs_all {N : Nat} {s : SnowSystem} (hr : RightOk N s) (hl : Link s) (x sec : Int) : (s.Packs.map fun p => runL s x sec p.Run).sum = sumL s x sec := by
  unfold runL sumL
  rw [sum_swap (fun p g => litR s x sec p.Run g) s.Packs s.Guns]
  refine sum_congr fun g hg => ?_
  obtain ⟨i, hi, rfl⟩ := mem_getD z_Gun hg
  refine one_pack (s.Guns.getD i z_Gun).Run (lit s x sec (s.Guns.getD i z_Gun)) s.Packs (packs_pw hr.incr) ?_
  have := (hl i hi).1
  unfold hasPack at this
  cases hf : fst (fun j => (s.Packs.getD j z_RunPack).Run == (s.Guns.getD i z_Gun).Run) s.Packs.length with
  | none => rw [hf] at this; cases this
  | some j =>
    obtain ⟨a, b, _⟩ := fst_some.1 hf
    exact ⟨_, getD_mem s.Packs j z_RunPack a, by simpa using b⟩
theorem kept_step {N : Nat} (hN : 1000 < N) {s : SnowSystem} (h : Small s) (hr : RightOk N s) (hl : Link s) {x sec pw : Int} (h1 : 1 ≤ sec) (h2 : sec ≤ 3600) (h3 : s.Time + sec ≤ 20000000) (hs : sumL s x sec ≤ Pn.spaI s.Ponds)
    (hov : fst (overP s x sec) s.Packs.length = none) (hpw : 0 ≤ pw) (hc : cntB (stepT N s x sec pw).Water (stepT N s x sec pw).Lost (stepT N s x sec pw).Energy (stepT N s x sec pw).Inflow = true) : Kept N s (stepT N s x sec pw) := by
  obtain ⟨hpl, _⟩ := (Pn.right_iff s.Ponds).1 hr.ponds
  have hpa := Pn.right_all hr.ponds
  have hsb := sumL_bound h hr h1 h2 (x := x)
  obtain ⟨_, trel, ttot⟩ := take_spec hN hpl hpa hsb.1 hs
  have tright := Pn.rel_right hr.ponds trel
  obtain ⟨tl, _⟩ := (Pn.right_iff _).1 tright
  have ta := Pn.right_all tright
  obtain ⟨frel, ftot⟩ := Pn.fill_rel tl ta trel (t := sec) (by omega) (by omega)
  have fright := Pn.rel_right hr.ponds frel
  have hrest := hr.rest
  have hpl0 : (s.Packs.map (newP s x sec)).length = s.Packs.length := by simp
  have hget : ∀ i, i < s.Packs.length → (s.Packs.map (newP s x sec)).getD i z_RunPack = newP s x sec (s.Packs.getD i z_RunPack) := fun i hi => getD_map _ _ _ _ _ hi
  have hmm : ∀ p, p ∈ s.Packs → 0 ≤ mmP s x sec p := fun p hp => (mm_bound h hr h1 h2 (pack_mem hr hp) (x := x)).1
  have hc' := hc
  unfold cntB at hc'
  simp only [Bool.and_eq_true, decide_eq_true_eq] at hc'
  have hlost : ((s.Packs.map (lostP s x sec)).sum) = sumL s x sec - (s.Packs.map fun p => mmP s x sec p * p.Area).sum := by
    rw [← runs_all hr hl x sec, ← sum_sub]
    rfl
  have hmi : mI (s.Packs.map (newP s x sec)) = mI s.Packs + (s.Packs.map fun p => mmP s x sec p * p.Area).sum := by
    unfold mI
    rw [← sum_add, List.map_map]
    refine sum_congr fun p _ => ?_
    show (p.Pack.Machine + mmP s x sec p) * p.Area = _
    rw [Int.add_mul]
  have hl0 : 0 ≤ (s.Packs.map (lostP s x sec)).sum := (Pn.sum_bound (lostP s x sec) 18000000 s.Packs fun p hp => lost_bound h hr h1 h2 (pack_mem hr hp)).1
  have hin : 0 ≤ Pn.sumW (takeR N s.Ponds (sumL s x sec)) sec := by
    rw [Pn.sumW_eq tl ta (by omega) (by omega)]
    refine (Pn.sum_bound (fun p => Pn.fillI p sec) 1000000000 (takeR N s.Ponds (sumL s x sec)) fun p hp => ?_).1
    have q2 := ta p hp
    have q3 := Pn.fillI_bound q2 (t := sec) (by omega)
    unfold Pn.PondOk at q2
    omega
  have he : 0 ≤ pw * sec := Int.mul_nonneg hpw (by omega)
  refine ⟨⟨?_, h.pumps, h.pipes, h.guns, ?_, h.kinds, h.outs⟩, ⟨fright, hr.pumps, hr.pumpR, hr.pipeR, hr.guns, fun i hi => ?_, fun i hi => ?_, ?_, ?_⟩, fun i hi => ?_, rfl, frel, hpl0, fun i hi => ?_, ?_, ?_, ?_⟩
  · show ((takeR N s.Ponds (sumL s x sec)).map (Pn.fillP sec)).length ≤ 30
    rw [frel.1]; exact h.ponds
  · show (s.Packs.map (newP s x sec)).length ≤ 30
    rw [hpl0]; exact h.packs
  · have hi : i < s.Packs.length := by rw [← hpl0]; exact hi
    show PackOk ((s.Packs.map (newP s x sec)).getD i z_RunPack)
    rw [hget i hi]
    have hpo := hr.packs i hi
    have hm := mm_bound h hr h1 h2 hpo (x := x)
    have ho := fst_none.1 hov i hi
    unfold overP at ho
    rw [decide_eq_false_iff_not] at ho
    have hk := make_ok (p := (s.Packs.getD i z_RunPack).Pack) hpo.2.2.2.2 hm.1 hm.2.1 (by omega)
    exact ⟨hpo.1, hpo.2.1, hpo.2.2.1, hpo.2.2.2.1, hk⟩
  · have hi : i + 1 < s.Packs.length := by rw [← hpl0]; exact hi
    show ((s.Packs.map (newP s x sec)).getD i z_RunPack).Run < ((s.Packs.map (newP s x sec)).getD (i + 1) z_RunPack).Run
    rw [hget i (by omega), hget (i + 1) hi]
    exact hr.incr i hi
  · show 0 ≤ s.Pressure ∧ s.Pressure ≤ 10000000 ∧ 0 ≤ s.Limit ∧ s.Limit ≤ 1000000000 ∧ 0 ≤ s.Time + sec ∧ s.Time + sec ≤ 20000000
    omega
  · exact ⟨hc'.1.1, hc'.1.2, hc'.2.1.1, hc'.2.1.2, hc'.2.2.1.1, hc'.2.2.1.2, hc'.2.2.2.1, hc'.2.2.2.2⟩
  · have q := hl i hi
    refine ⟨?_, q.2⟩
    show hasPack (s.Packs.map (newP s x sec)) (s.Guns.getD i z_Gun).Run = true
    rw [← q.1]
    unfold hasPack
    rw [hpl0, fst_congr fun j hj => by rw [hget j hj]]
    rfl
  · show ((s.Packs.map (newP s x sec)).getD i z_RunPack).Run = _ ∧ ((s.Packs.map (newP s x sec)).getD i z_RunPack).Area = _ ∧ ((s.Packs.map (newP s x sec)).getD i z_RunPack).Pack.Natural = _ ∧ _ ≤ ((s.Packs.map (newP s x sec)).getD i z_RunPack).Pack.Machine
    rw [hget i hi]
    refine ⟨rfl, rfl, rfl, ?_⟩
    have := hmm _ (getD_mem s.Packs i z_RunPack hi)
    show (s.Packs.getD i z_RunPack).Pack.Machine ≤ (s.Packs.getD i z_RunPack).Pack.Machine + mmP s x sec (s.Packs.getD i z_RunPack)
    omega
  · show s.Energy ≤ s.Energy + pw * sec ∧ s.Water ≤ s.Water + sumL s x sec ∧ s.Lost ≤ s.Lost + (s.Packs.map (lostP s x sec)).sum ∧ s.Inflow ≤ s.Inflow + Pn.sumW (takeR N s.Ponds (sumL s x sec)) sec
    omega
  · show s.Water + sumL s x sec - (s.Lost + (s.Packs.map (lostP s x sec)).sum) - mI (s.Packs.map (newP s x sec)) = s.Water - s.Lost - mI s.Packs
    rw [hlost, hmi]
    omega
  · show Pn.totI ((takeR N s.Ponds (sumL s x sec)).map (Pn.fillP sec)) - (s.Inflow + Pn.sumW (takeR N s.Ponds (sumL s x sec)) sec) + (s.Water + sumL s x sec) = Pn.totI s.Ponds - s.Inflow + s.Water
    rw [ftot, ttot]
    omega
section
variable {N : Nat} (hN : 1000 < N)
include hN
theorem step_eq2 {s : SnowSystem} (h : Small s) (hr : RightOk N s) {x w pw e : Int} (hw : snowmaking_Why N s x = some w) (hp : snowmaking_Power N s x = some (pw, e)) (sec : Int) : snowmaking_Step N s x sec = some (stepS N s x sec w pw) := by
  by_cases ht : -9000000000000000000 ≤ sec ∧ sec ≤ 9000000000000000000
  · exact step_eq hN h hr hw hp sec ht
  · have hb : (decide (sec < 1) || decide (sec > 3600)) = true := by
      rw [Bool.or_eq_true, decide_eq_true_eq, decide_eq_true_eq]
      omega
    unfold snowmaking_Step stepS
    simp only [cond_or, Option.bind_some]
    rw [← Bool.or_assoc, hb, Bool.true_or, cond_true, ← Bool.or_assoc, hb, Bool.true_or, cond_true]
end
end Go.Proofs.YtkhkblihdabnoaaGreat

/- Snowmaking: what a call keeps. No condition. -/
namespace Go.Proofs.YtkhkblihdabnoaaGreat
open Go.Cm Go.Proofs
section
variable {N : Nat} (hN : 1000 < N)
include hN
theorem done_kept {s : SnowSystem} (h : Small s) (hr : RightOk N s) (hl : Link s) (o : Op) : W (fun r : SnowSystem × Int => r.2 = 0 → Kept N s r.1) (l44_done N s o) := by
  unfold l44_done
  refine W_cond (fun _ => ?_) (fun _ => ?_)
  · obtain ⟨w, hw, _⟩ := why_tot hN h o.Wet
    obtain ⟨⟨pw, e⟩, hp, hpw⟩ := power_nn hN h hr o.Wet
    rw [step_eq2 hN h hr hw hp o.N, Option.bind_some]
    refine W_some fun h0 => ?_
    unfold stepS at h0 ⊢
    cases c1 : (decide (o.N < 1) || (decide (o.N > 3600) || (decide (s.Time + o.N > 20000000) || (decide (o.Wet < -1000) || decide (o.Wet > 1000))))) with
    | true => rw [c1] at h0; cases h0
    | false =>
      rw [c1, cond_false] at h0
      rw [cond_false]
      simp only [Bool.or_eq_false_iff, decide_eq_false_iff_not] at c1
      cases c2 : w != 0 with
      | true =>
        rw [c2, cond_true] at h0
        rw [bne_iff_ne] at c2
        exact absurd h0 c2
      | false =>
        rw [c2, cond_false] at h0
        rw [cond_false]
        cases c3 : decide (sumL s o.Wet o.N > Pn.spaI s.Ponds) with
        | true => rw [c3] at h0; cases h0
        | false =>
          rw [c3, cond_false] at h0
          rw [cond_false]
          rw [decide_eq_false_iff_not] at c3
          cases c4 : fst (overP s o.Wet o.N) s.Packs.length with
          | some i => rw [c4] at h0; cases h0
          | none =>
            rw [c4, Option.isSome_none, cond_false] at h0
            rw [Option.isSome_none, cond_false]
            cases c5 : cntB (stepT N s o.Wet o.N pw).Water (stepT N s o.Wet o.N pw).Lost (stepT N s o.Wet o.N pw).Energy (stepT N s o.Wet o.N pw).Inflow with
            | false => rw [c5] at h0; cases h0
            | true =>
              rw [cond_true]
              exact kept_step hN h hr hl (by omega) (by omega) (by omega) (by omega) c4 hpw c5
  · rw [switch_eq hN h]
    cases hf : fst (fun i => (s.Guns.getD i z_Gun).ID == o.N) s.Guns.length with
    | none => exact W_some fun h0 => by cases h0
    | some i =>
      obtain ⟨hi, _, _⟩ := fst_some.1 hf
      simp only
      cases hg : turnS (o.Kind == 1) (s.Guns.getD i z_Gun) s.Time with
      | mk g e =>
        simp only
        cases c1 : e != 0 with
        | true => exact W_some fun h0 => by rw [bne_iff_ne] at c1; exact absurd h0 c1
        | false =>
          have e0 : e = 0 := by simpa using c1
          subst e0
          have hk := kept_gun h hr hl hi hg
          cases o.Kind == 1 with
          | false => exact W_some fun _ => hk
          | true =>
            simp only [cond_false, cond_true]
            obtain ⟨w, hw, _⟩ := why_tot hN hk.sm o.Wet
            rw [hw]
            simp only [Option.bind_some]
            cases c2 : w != 0 with
            | true => exact W_some fun h0 => by rw [bne_iff_ne] at c2; exact absurd h0 c2
            | false => exact W_some fun _ => hk
end
end Go.Proofs.YtkhkblihdabnoaaGreat

/- Snowmaking: equal systems; the law SnowmakingIdle in plain words. No condition. -/
namespace Go.Proofs.YtkhkblihdabnoaaGreat
open Go.Cm Go.Proofs
section
variable {N : Nat} (hN : 1000 < N)
include hN
theorem sameKind_refl (k : GunKind) (h : k.Output.length ≤ 900) : r44_sameKind N k k = some true := by
  unfold r44_sameKind
  simp only [bne_self_eq_false, cond_false, Option.bind_some]
  rw [through () k.Output.length (by omega) (fun i hi => ?_) (by simp)]
  · rfl
  · simp only [dlt hi, dge, Bool.and_self, cond_true, beq_self_eq_true, Bool.not_true, cond_false, wrapN (show i < 9223372036854775807 by omega)]
theorem samePacks_refl (l : List RunPack) (h : l.length ≤ 900) : r44_SamePacks N l l = some true := by
  unfold r44_SamePacks
  simp only [bne_self_eq_false, cond_false, Option.bind_some]
  rw [through () l.length (by omega) (fun i hi => ?_) (by simp)]
  · rfl
  · simp only [dlt hi, dge, Bool.and_self, cond_true, beq_self_eq_true, Bool.not_true, cond_false, wrapN (show i < 9223372036854775807 by omega)]
theorem same_refl {s : SnowSystem} (h : Small s) : r44_Same N s s = some true := by
  have h1 := h.guns
  have h2 := h.kinds
  have h3 := h.pipes
  have h4 := h.packs
  have h5 := h.ponds
  have h6 := h.pumps
  unfold r44_Same
  simp only [bne_self_eq_false, cond_false, Option.bind_some, samePacks_refl hN s.Packs (by omega), Bool.not_true]
  rw [through () s.Ponds.length (by omega) (fun i hi => ?_) (by simp), through () s.Pumps.length (by omega) (fun i hi => ?_) (by simp), through () s.Pipes.length (by omega) (fun i hi => ?_) (by simp), through () s.Guns.length (by omega) (fun i hi => ?_) (by simp), through () s.Kinds.length (by omega) (fun i hi => ?_) (by simp)]
  · simp only [Option.bind_some, Sum.elim_inl, beq_self_eq_true, cond_true]
  · have := h.outs i hi
    simp only [dlt hi, dge, Bool.and_self, cond_true, Int.toNat_natCast, sameKind_refl hN (s.Kinds.getD i z_GunKind) (by omega), Option.bind_some, Bool.not_true, cond_false, wrapN (show i < 9223372036854775807 by omega)]
  all_goals simp only [dlt hi, dge, Bool.and_self, cond_true, beq_self_eq_true, Bool.not_true, cond_false, wrapN (show i < 9223372036854775807 by omega)]
theorem rtotal_eq (l : List Pond) (hl : l.length ≤ 8) (h : ∀ p, p ∈ l → Pn.PondOk p) : r39_Total N l = some (Pn.totI l) := Pn.total_eq hN l hl h
end
end Go.Proofs.YtkhkblihdabnoaaGreat

/- Snowmaking: what the references of the guns compute (taken out of the texts on guns). No condition. -/
namespace Go.Proofs.YtkhkblihdabnoaaGreat.Gn
open Go.Cm Go.Proofs
set_option linter.unusedSectionVars false
section
variable {N : Nat}
theorem within_eq (x : Int) : r01_Within N x 1000000000 = some (!(decide (x < -1000000000) || decide (x > 1000000000))) := by
  unfold r01_Within
  have h : IntKind.i64.wrap (0 - 1000000000) = -1000000000 := by decide
  rw [h, cond_and, Option.bind_some]
  by_cases h1 : x < -1000000000 <;> by_cases h2 : x > 1000000000 <;> simp [h1, h2] <;> omega
theorem rfloor_eq (a b : Int) (hb : 0 < b) : r01_Floor N a b = some (floS a b) := by
  unfold r01_Floor floS
  have : (b != 0) = true := by simp; omega
  simp only [this, cond_true, cond_some]
theorem id_eq (x : Int) : r42_id N x = some (!(decide (x < 1) || decide (x > 9999))) := by
  unfold r42_id
  rw [cond_and, Option.bind_some]
  by_cases h1 : x < 1 <;> by_cases h2 : x > 9999 <;> simp [h1, h2] <;> omega
theorem day_eq (x : Int) : r42_day N x = some (!(decide (x < 0) || decide (x > 86400))) := by
  unfold r42_day
  rw [cond_and, Option.bind_some]
  by_cases h1 : x < 0 <;> by_cases h2 : x > 86400 <;> simp [h1, h2] <;> omega
theorem become_eq (g : Gun) (st t least : Int) : r42_become N g st t least = some (becS g st t least) := by
  unfold r42_become becS
  rw [cond_or, Option.bind_some]
  cases (decide (t < g.Since) || decide (t > 20000000)) <;> cases decide (t < IntKind.i64.wrap (g.Since + least)) <;> rfl
theorem rstart_eq (g : Gun) (t : Int) : r42_Start N g t = some (startS g t) := by
  unfold r42_Start startS
  rw [become_eq]
  cases g.State != 0 <;> rfl
theorem rstop_eq (g : Gun) (t : Int) : r42_Stop N g t = some (stopS g t) := by
  unfold r42_Stop stopS
  rw [become_eq]
  cases g.State != 1 <;> rfl
end
section
variable {N : Nat} (hN : 1000 < N)
include hN
theorem rpoints_eq (l : List Point) : r01_Points N l = some (ptsS l) := by
  unfold r01_Points ptsS
  rw [cond_or, Option.bind_some]
  cases hq : (decide ((l.length : Int) < 1) || decide ((l.length : Int) > 64)) with
  | true => rfl
  | false =>
    have hl : l.length ≤ 64 := by simp at hq; omega
    rw [cond_false, search (badPt l) (fun _ => false) () l.length (by omega) (fun i hi => ?_) (by simp)]
    · cases fst _ _ <;> rfl
    · simp only [dlt hi, dge, Bool.and_self, cond_true, Int.toNat_natCast, within_eq, Option.bind_some, wrapN (show i < 9223372036854775807 by omega), Bool.not_not]
      unfold badPt
      cases i with
      | zero =>
        have h1 : decide (((0 : Nat) : Int) > 0) = false := by simp
        simp only [h1, cond_false, Nat.lt_irrefl, decide_false, Bool.false_and, Bool.or_false, cond_or, Option.bind_some, Bool.or_assoc]
      | succ k =>
        have h1 : decide (((k + 1 : Nat) : Int) > 0) = true := by simp
        simp only [h1, cond_true, wrapS (show k < 9223372036854775807 by omega), dge, dlt (show k < l.length by omega), Bool.and_self, Int.toNat_natCast, Nat.add_sub_cancel, Nat.zero_lt_succ, decide_true, Bool.true_and, cond_or, Option.bind_some, Bool.or_assoc]
theorem rat_eq (l : List Point) (x : Int) : r01_At N l x = some (atS l x) := by
  unfold r01_At atS
  rw [rpoints_eq hN, Option.bind_some]
  cases hp : ptsS l with
  | false => rfl
  | true =>
    obtain ⟨l1, l2, hb⟩ := pts_spec hp
    have e1 : IntKind.i64.wrap ((l.length : Int) - 1) = ((l.length - 1 : Nat) : Int) := by rw [wrap64 (by omega) (by omega)]; omega
    have e2 : decide ((0 : Int) < (l.length : Int)) = true := by simp; omega
    simp only [Bool.not_true, cond_false, Bool.true_and, e1, e2, cond_true, dge, dlt (show l.length - 1 < l.length by omega), Bool.and_self, Int.toNat_natCast]
    unfold atV
    by_cases h0 : x ≤ (l.getD 0 z_Point).X
    · simp only [h0, decide_true, cond_true]
    · by_cases h1 : x ≥ (l.getD (l.length - 1) z_Point).X
      · simp only [h0, h1, decide_true, decide_false, cond_true, cond_false]
      · obtain ⟨s1, s2, s3, s4⟩ := seg_spec hp h0 h1
        simp only [h0, h1, decide_false, cond_false]
        have hs := hb (seg l x + 1) s1
        have hx := hb (seg l x) (by omega)
        have e3 : IntKind.i64.wrap ((l.getD (seg l x + 1) z_Point).X - (l.getD (seg l x) z_Point).X) = (l.getD (seg l x + 1) z_Point).X - (l.getD (seg l x) z_Point).X := wrap64 (by omega) (by omega)
        refine (bindT (fun i => (i : Int)) rfl ((seg l x : Nat) : Int) (seg l x) (by omega) (fun i hi => ?_) ?_).trans ?_
        · simp only [wrapC (show i < 9223372036854775807 by omega), dge, dlt (show i + 1 < l.length by omega), Bool.and_self, cond_true, Int.toNat_natCast, s2 i hi, decide_true]
        · have : ¬ (l.getD (seg l x + 1) z_Point).X ≤ x := by omega
          simp only [wrapC (show seg l x < 9223372036854775807 by omega), dge, dlt s1, Bool.and_self, cond_true, Int.toNat_natCast, this, decide_false, cond_false]
        · simp only [Option.bind_some, dge, dlt (show seg l x < l.length by omega), Bool.and_self, cond_true, wrapC (show seg l x < 9223372036854775807 by omega), dlt s1, Int.toNat_natCast]
          rw [rfloor_eq _ _ (by rw [e3]; omega)]
          rfl
theorem find_eq (ks : List GunKind) (id : Int) (hl : ks.length ≤ 64) : r42_find N ks id = some (kindOf ks id, seenK ks ks.length id) := by
  unfold r42_find kindOf seenK
  refine (bindS (fun i => ((i : Int), z_GunKind)) rfl (fun i => (ks.getD i z_GunKind).ID == id) (fun i => (true, ks.getD i z_GunKind)) z_GunKind ks.length (show ks.length < N by omega) (fun i hi _ => ?_) (fun _ => ?_)).trans ?_
  · simp only [dlt hi, dge, Bool.and_self, cond_true, Int.toNat_natCast, wrapC (show i < 9223372036854775807 by omega)]
  · simp only [dnlt, cond_false]
  · cases fst _ _ <;> rfl
theorem rkind_eq (ks : List GunKind) (hl : ks.length ≤ 64) (i : Nat) (hi : i < ks.length) : r42_kind N ks i = some (errK ks i) := by
  unfold r42_kind
  simp only [dlt hi, dge, Bool.and_self, cond_true, Int.toNat_natCast, cond_or, Option.bind_some]
  have hr : (decide ((ks.getD i z_GunKind).ID < 1) || (decide ((ks.getD i z_GunKind).ID > 9999) || (decide ((ks.getD i z_GunKind).Power < 0) || (decide ((ks.getD i z_GunKind).Power > 1000000) || (decide ((ks.getD i z_GunKind).Pressure < 0) || decide ((ks.getD i z_GunKind).Pressure > 1000000)))))) = rangeK (ks.getD i z_GunKind) := rfl
  rw [hr]
  unfold errK
  cases rangeK (ks.getD i z_GunKind) with
  | true => rfl
  | false =>
    have hsk : seenK ks i (ks.getD i z_GunKind).ID = (fst (fun j => (ks.getD j z_GunKind).ID == (ks.getD i z_GunKind).ID) i).isSome := rfl
    simp only [cond_false]
    rw [hsk, search (fun j => (ks.getD j z_GunKind).ID == (ks.getD i z_GunKind).ID) (fun _ => (7 : Int)) () i (by omega) (fun j hj => ?_) (by simp)]
    · cases fst (fun j => (ks.getD j z_GunKind).ID == (ks.getD i z_GunKind).ID) i with
      | some j => rfl
      | none =>
        simp only [Option.bind_some, sres, Sum.elim_inl, Option.isSome_none, cond_false, rat_eq hN, at_ok, fallS]
        obtain ⟨o, ho⟩ : ∃ o, (ks.getD i z_GunKind).Output = o := ⟨_, rfl⟩
        simp only [ho]
        cases hp : ptsS o with
        | false => rfl
        | true =>
          obtain ⟨l1, l2, _⟩ := pts_spec hp
          rw [Bool.not_true, cond_false, search (badY o) (fun _ => (1 : Int)) () o.length (by omega) (fun j hj => ?_) (by simp)]
          · cases fst (badY o) o.length <;> rfl
          · simp only [dlt hj, dge, Bool.and_self, cond_true, Int.toNat_natCast, wrapN (show j < 9223372036854775807 by omega)]
            unfold badY
            cases j with
            | zero =>
              have h1 : decide (((0 : Nat) : Int) > 0) = false := by simp
              simp only [h1, cond_false, Nat.lt_irrefl, decide_false, Bool.false_and, Bool.or_false, cond_or, Option.bind_some]
            | succ k =>
              have h1 : decide (((k + 1 : Nat) : Int) > 0) = true := by simp
              simp only [h1, cond_true, wrapS (show k < 9223372036854775807 by omega), dge, dlt (show k < o.length by omega), Bool.and_self, Int.toNat_natCast, Nat.add_sub_cancel, Nat.zero_lt_succ, decide_true, Bool.true_and, cond_or, Option.bind_some]
    · simp only [dlt hj, dge, dlt (show j < ks.length by omega), Bool.and_self, cond_true, Int.toNat_natCast, wrapN (show j < 9223372036854775807 by omega)]
theorem rright_eq (ks : List GunKind) (l : List Gun) : r42_Right N ks l = some (rightS ks l) := by
  unfold r42_Right rightS
  rw [cond_or, Option.bind_some]
  cases hq : (decide ((ks.length : Int) > 64) || decide ((l.length : Int) > 64)) with
  | true => rfl
  | false =>
    have hl : ks.length ≤ 64 ∧ l.length ≤ 64 := by simp at hq; omega
    rw [cond_false, search (fun i => errK ks i != 0) (fun i => errK ks i) () ks.length (by omega) (fun i hi => ?_) (by simp)]
    · cases hf : fst (fun i => errK ks i != 0) ks.length with
      | some i => rfl
      | none =>
        simp only [Option.bind_some, sres, Sum.elim_inl, cond_false]
        rw [search (fun i => errG ks l i != 0) (fun i => errG ks l i) () l.length (by omega) (fun i hi => ?_) (by simp)]
        · cases fst (fun i => errG ks l i != 0) l.length <;> rfl
        · simp only [dlt hi, dge, Bool.and_self, cond_true, Int.toNat_natCast, id_eq, day_eq, Option.bind_some, cond_or, Bool.not_not, wrapN (show i < 9223372036854775807 by omega), find_eq hN ks _ hl.1]
          have hin : ∀ g : Gun, (decide (g.ID < 1) || decide (g.ID > 9999) || (decide (g.Node < 1) || decide (g.Node > 9999) || (decide (g.Run < 1) || decide (g.Run > 9999) || (decide (g.State < 0) || (decide (g.State > 2) || (decide (g.Since < 0) || (decide (g.Since > 20000000) || (decide (g.On < 0) || decide (g.On > 86400) || (decide (g.Off < 0) || decide (g.Off > 86400)))))))))) = !inRangeS g := by
            intro g
            unfold inRangeS
            rw [Bool.eq_iff_iff]
            simp only [Bool.or_eq_true, Bool.not_eq_true', Bool.and_eq_false_iff, Bool.not_eq_false', decide_eq_true_eq, decide_eq_false_iff_not]
            omega
          rw [hin]
          unfold errG
          cases inRangeS (l.getD i z_Gun) with
          | false => rfl
          | true =>
            have hsg : seenG l i (l.getD i z_Gun).ID = (fst (fun j => (l.getD j z_Gun).ID == (l.getD i z_Gun).ID) i).isSome := rfl
            simp only [Bool.not_true, cond_false]
            rw [hsg, search (fun j => (l.getD j z_Gun).ID == (l.getD i z_Gun).ID) (fun _ => (7 : Int)) () i (by omega) (fun j hj => ?_) (by simp)]
            · cases fst (fun j => (l.getD j z_Gun).ID == (l.getD i z_Gun).ID) i with
              | some j => rfl
              | none =>
                simp only [Option.bind_some, sres, Sum.elim_inl, Option.isSome_none, cond_false]
                cases seenK ks ks.length (l.getD i z_Gun).Kind <;> rfl
            · simp only [dlt hj, dge, dlt (show j < l.length by omega), Bool.and_self, cond_true, Int.toNat_natCast, wrapN (show j < 9223372036854775807 by omega)]
    · simp only [dlt hi, cond_true, rkind_eq hN ks hl.1 i hi, Option.bind_some, wrapN (show i < 9223372036854775807 by omega)]
theorem rout_eq (k : GunKind) (x : Int) : r42_Output N k x = some (outS k x) := by
  unfold r42_Output outS
  rw [rat_eq hN]; rfl
theorem rdraws_eq (ks : List GunKind) (l : List Gun) (x : Int) (hk : ks.length ≤ 64) (hl : l.length ≤ 64) : r42_Draws N ks l x = some (drawsS ks l x) := by
  unfold r42_Draws
  refine (bindT (fun i => (drawsS ks (l.take i) x, (i : Int))) rfl (drawsS ks l x) l.length (show l.length < N by omega) (fun i hi => ?_) ?_).trans rfl
  · have hlen := filt_len l i
    simp only [dlt hi, dge, Bool.and_self, cond_true, Int.toNat_natCast, find_eq hN ks _ hk, rout_eq hN, Option.bind_some, wrapC (show i < 9223372036854775807 by omega)]
    have hb : decide (((drawsS ks (l.take i) x).length + [Draw.mk (l.getD i z_Gun).Node (outS (kindOf ks (l.getD i z_Gun).Kind) x)].length) * 16 ≤ 140737488355328) = true := by
      simp only [drawsS, List.length_map, List.length_singleton, decide_eq_true_eq]; omega
    rw [hb]
    have hd : drawsS ks (l.take (i + 1)) x = drawsS ks (l.take i) x ++ bif onB (l.getD i z_Gun) then [Draw.mk (l.getD i z_Gun).Node (outS (kindOf ks (l.getD i z_Gun).Kind) x)] else [] := by
      unfold drawsS
      rw [filt_step l i hi, List.map_append]
      cases onB (l.getD i z_Gun) <;> rfl
    rw [hd]
    have ho : ((l.getD i z_Gun).State == 1) = onB (l.getD i z_Gun) := rfl
    rw [ho]
    cases onB (l.getD i z_Gun)
    · simp
    · rfl
  · simp only [dnlt, cond_false, List.take_length]
theorem rneeds_eq (ks : List GunKind) (l : List Gun) (hk : ks.length ≤ 64) (hl : l.length ≤ 64) : r42_Needs N ks l = some (needsS ks l) := by
  unfold r42_Needs
  refine (bindT (fun i => (needsS ks (l.take i), (i : Int))) rfl (needsS ks l) l.length (show l.length < N by omega) (fun i hi => ?_) ?_).trans rfl
  · have hlen := filt_len l i
    simp only [dlt hi, dge, Bool.and_self, cond_true, Int.toNat_natCast, find_eq hN ks _ hk, Option.bind_some, wrapC (show i < 9223372036854775807 by omega)]
    have hb : decide (((needsS ks (l.take i)).length + [Draw.mk (l.getD i z_Gun).Node (kindOf ks (l.getD i z_Gun).Kind).Pressure].length) * 16 ≤ 140737488355328) = true := by
      simp only [needsS, List.length_map, List.length_singleton, decide_eq_true_eq]; omega
    rw [hb]
    have hd : needsS ks (l.take (i + 1)) = needsS ks (l.take i) ++ bif onB (l.getD i z_Gun) then [Draw.mk (l.getD i z_Gun).Node (kindOf ks (l.getD i z_Gun).Kind).Pressure] else [] := by
      unfold needsS
      rw [filt_step l i hi, List.map_append]
      cases onB (l.getD i z_Gun) <;> rfl
    rw [hd]
    have ho : ((l.getD i z_Gun).State == 1) = onB (l.getD i z_Gun) := rfl
    rw [ho]
    cases onB (l.getD i z_Gun)
    · simp
    · rfl
  · simp only [dnlt, cond_false, List.take_length]
theorem rpower_eq (ks : List GunKind) (l : List Gun) (hk : ks.length ≤ 64) (hl : l.length ≤ 64) (h : ∀ i, i < ks.length → errK ks i = 0) : r42_Power N ks l = some (powI ks l) := by
  unfold r42_Power
  refine (bindT (fun i => (powI ks (l.take i), (i : Int))) rfl (powI ks l) l.length (show l.length < N by omega) (fun i hi => ?_) ?_).trans rfl
  · simp only [dlt hi, dge, Bool.and_self, cond_true, Int.toNat_natCast, find_eq hN ks _ hk, Option.bind_some, wrapC (show i < 9223372036854775807 by omega)]
    have hb := pow_bound h (l.take i)
    have hp := kindOf_pow h (l.getD i z_Gun).Kind
    have hlen : (l.take i).length ≤ 64 := by simp; omega
    rw [pow_step ks l i hi, wrap64 (by omega) (by omega)]
    have ho : ((l.getD i z_Gun).State == 1) = onB (l.getD i z_Gun) := rfl
    rw [ho]
    cases onB (l.getD i z_Gun)
    · simp
    · rfl
  · simp only [dnlt, cond_false, List.take_length]
end
end Go.Proofs.YtkhkblihdabnoaaGreat.Gn

/- Snowmaking: what the references of the ponds compute (taken out of the texts on ponds). No condition. -/
namespace Go.Proofs.YtkhkblihdabnoaaGreat.Pn
open Go.Cm Go.Proofs
set_option linter.unusedSectionVars false
theorem shrN {x : Int} (h : 0 ≤ x) {i : Nat} (hi : i ≤ 64) : shrI IntKind.i64 x (i : Int) = x / 2 ^ i := by
  show x.fdiv (2 ^ (min ((i : Int).toNat) 64)) = _
  rw [Int.toNat_natCast, Nat.min_eq_left hi, Int.fdiv_eq_ediv_of_nonneg _ (Int.le_of_lt (Int.pow_pos (by decide)))]
theorem and1 {x : Int} (h1 : 0 ≤ x) (h2 : x < 9223372036854775808) : andI IntKind.i64 x 1 = x % 2 := by
  obtain ⟨n, rfl⟩ : ∃ n : Nat, x = n := ⟨x.toNat, by omega⟩
  show IntKind.i64.wrap ((BitVec.ofInt 64 (n : Int) &&& BitVec.ofInt 64 1).toNat : Int) = _
  have e1 : (BitVec.ofInt 64 (n : Int)).toNat = n := by
    rw [BitVec.toNat_ofInt]
    have : ((n : Int) % ((2 ^ 64 : Nat) : Int)).toNat = n := by
      have : ((2 ^ 64 : Nat) : Int) = 18446744073709551616 := by decide
      rw [this]
      omega
    exact this
  have e2 : (BitVec.ofInt 64 1).toNat = 2 ^ 1 - 1 := by decide
  rw [BitVec.toNat_and, e1, e2, Nat.and_two_pow_sub_one_eq_mod, wrap64 (by omega) (by omega)]
  omega
theorem half {w : Int} (h : 0 ≤ w) (i : Nat) : w / 2 ^ (i + 1) = w / 2 ^ i / 2 := by
  rw [Int.pow_succ, Int.ediv_ediv_of_nonneg (Int.le_of_lt (Int.pow_pos (by decide)))]
theorem bit_step {a s A b : Int} (hs : 0 < s) : (2 * A + b * a) / s = 2 * (A / s) + b * (a / s) + (2 * (A % s) + b * (a % s)) / s ∧ (2 * A + b * a) % s = (2 * (A % s) + b * (a % s)) % s := by
  have e1 := Int.mul_ediv_add_emod A s
  have e2 := Int.mul_ediv_add_emod a s
  have e3 : 2 * A + b * a = (2 * (A % s) + b * (a % s)) + s * (2 * (A / s) + b * (a / s)) := by
    conv => lhs; rw [← e1, ← e2]
    simp only [Int.mul_add, Int.mul_left_comm]
    omega
  rw [e3, Int.add_mul_ediv_left _ _ (show s ≠ 0 by omega), Int.add_mul_emod_self_left]
  exact ⟨by omega, rfl⟩
theorem quot_eq {N : Nat} (hN : 1000 < N) {a w s : Int} (ha : 0 ≤ a) (ha' : a ≤ 1099511627776) (hw : 0 ≤ w) (hw' : w ≤ 1000000000) (hs : 0 < s) (hs' : s ≤ 64000000000) (hws : w ≤ s) : r34_Quotient N a w s = some (a * w / s, a * w % s) := by
  unfold r34_Quotient
  have hw0 : w / 2 ^ 31 = 0 := Int.ediv_eq_zero_of_lt hw (by have : (2 : Int) ^ 31 = 2147483648 := by decide
                                                             omega)
  refine (bindT (fun k : Nat => (a * (w / 2 ^ (31 - k)) / s, a * (w / 2 ^ (31 - k)) % s, (30 : Int) - k)) ?_ (a * w / s, a * w % s) 31 (by omega) (fun k hk => ?_) ?_).trans rfl
  · rw [show 31 - 0 = 31 from rfl, hw0]; simp
  · obtain ⟨i, hi, e0⟩ : ∃ i : Nat, i + k = 30 ∧ (30 : Int) - k = (i : Int) := ⟨30 - k, by omega, by omega⟩
    have e1 : 31 - k = i + 1 := by omega
    have e2 : 31 - (k + 1) = i := by omega
    have e3 : (30 : Int) - ((k + 1 : Nat) : Int) = (i : Int) - 1 := by omega
    simp only [e0, e1, e2, e3]
    have hV0 : 0 ≤ w / 2 ^ i := Int.ediv_nonneg hw (Int.le_of_lt (Int.pow_pos (by decide)))
    have hV1 : w / 2 ^ i ≤ w := Int.ediv_le_self _ hw
    rw [half hw i]
    generalize hV : w / 2 ^ i = V at *
    have c1 : decide ((i : Int) ≥ 0) = true := by simp
    have c3 : (s != 0) = true := by rw [bne_iff_ne]; omega
    have hA := Int.mul_nonneg ha (show 0 ≤ V / 2 by omega)
    have hA2 : a * (V / 2) ≤ a * s := Int.mul_le_mul_of_nonneg_left (by omega) ha
    have hq0 : 0 ≤ a * (V / 2) / s := Int.ediv_nonneg hA (by omega)
    have hq1 : a * (V / 2) / s ≤ a := by
      have := Int.ediv_le_ediv hs hA2
      rwa [Int.mul_ediv_cancel _ (show s ≠ 0 by omega)] at this
    have hr0 := Int.emod_nonneg (a * (V / 2)) (show s ≠ 0 by omega)
    have hr1 := Int.emod_lt_of_pos (a * (V / 2)) hs
    have ga0 : 0 ≤ a / s := Int.ediv_nonneg ha (by omega)
    have ga1 : a / s ≤ a := Int.ediv_le_self _ ha
    have gm0 := Int.emod_nonneg a (show s ≠ 0 by omega)
    have gm1 := Int.emod_lt_of_pos a hs
    have hbit := bit_step (a := a) (A := a * (V / 2)) (b := V % 2) hs
    have haV : a * V = 2 * (a * (V / 2)) + V % 2 * a := by
      have : V = 2 * (V / 2) + V % 2 := by omega
      conv => lhs; rw [this]
      rw [Int.mul_add, Int.mul_left_comm, Int.mul_comm a (V % 2)]
    rw [← haV] at hbit
    simp only [c1, dge, cond_true, shrN hw (show i ≤ 64 by omega), hV, and1 hV0 (show V < 9223372036854775808 by omega), c3, Int.tdiv_eq_ediv_of_nonneg ha, Int.tmod_eq_emod_of_nonneg ha]
    rw [hbit.1, hbit.2]
    generalize a * (V / 2) / s = q at *
    generalize a * (V / 2) % s = r at *
    generalize a / s = qa at *
    generalize a % s = ra at *
    have wi : IntKind.i64.wrap ((i : Int) - 1) = (i : Int) - 1 := wrap64 (by omega) (by omega)
    rcases Int.emod_two_eq V with hb | hb
    · rw [hb]
      have x0 : 0 ≤ (2 * r) / s := Int.ediv_nonneg (by omega) (by omega)
      have x1 : (2 * r) / s ≤ 2 * r := Int.ediv_le_self _ (by omega)
      simp only [show ((0 : Int) == 1) = false from rfl, cond_false, Option.bind_some, wrap64 (z := 2 * q) (by omega) (by omega), wrap64 (z := 2 * r) (by omega) (by omega), Int.tdiv_eq_ediv_of_nonneg (show 0 ≤ 2 * r by omega), Int.tmod_eq_emod_of_nonneg (show 0 ≤ 2 * r by omega), Int.zero_mul, Int.add_zero, wi]
      rw [wrap64 (z := 2 * r / s) (by omega) (by omega), wrap64 (z := 2 * q + 2 * r / s) (by omega) (by omega)]
    · rw [hb]
      have x0 : 0 ≤ (2 * r + ra) / s := Int.ediv_nonneg (by omega) (by omega)
      have x1 : (2 * r + ra) / s ≤ 2 * r + ra := Int.ediv_le_self _ (by omega)
      simp only [show ((1 : Int) == 1) = true from rfl, cond_true, Option.bind_some, wrap64 (z := 2 * q) (by omega) (by omega), wrap64 (z := 2 * r) (by omega) (by omega), wrap64 (z := qa) (by omega) (by omega), wrap64 (z := 2 * q + qa) (by omega) (by omega), wrap64 (z := 2 * r + ra) (by omega) (by omega),
        Int.tdiv_eq_ediv_of_nonneg (show 0 ≤ 2 * r + ra by omega), Int.tmod_eq_emod_of_nonneg (show 0 ≤ 2 * r + ra by omega), Int.one_mul, wi]
      rw [wrap64 (z := (2 * r + ra) / s) (by omega) (by omega), wrap64 (z := 2 * q + qa + (2 * r + ra) / s) (by omega) (by omega)]
  · have c1 : decide ((30 : Int) - ((31 : Nat) : Int) ≥ 0) = false := by decide
    simp only [c1, cond_false]
    rw [show 31 - 31 = 0 from rfl]
    simp
def marks (r : List Int) (T : List Int) : List Int := T.foldl (fun rs v => rs.set v.toNat (-1)) r
theorem marks_step (r T : List Int) (k : Nat) (hk : k < T.length) : marks r (T.take (k + 1)) = (marks r (T.take k)).set (T.getD k 0).toNat (-1) := by
  unfold marks
  rw [take_getD T k 0 hk, List.foldl_append]
  rfl
theorem marks_len (r T : List Int) : (marks r T).length = r.length := by
  unfold marks
  induction T generalizing r with
  | nil => rfl
  | cons v T ih => rw [List.foldl_cons, ih]; simp
theorem marks_get : ∀ (T r : List Int), (∀ v, v ∈ T → 0 ≤ v ∧ v < r.length) → ∀ i : Nat, i < r.length → (marks r T).getD i 0 = bif T.contains (i : Int) then -1 else r.getD i 0
  | [], r, _, i, _ => by simp [marks]
  | v :: T, r, hT, i, hi => by
    have hv := hT v (List.mem_cons_self ..)
    have ih := marks_get T (r.set v.toNat (-1)) (fun u hu => by have := hT u (List.mem_cons_of_mem _ hu); rw [List.length_set]; exact this) i (by rw [List.length_set]; exact hi)
    have e : marks r (v :: T) = marks (r.set v.toNat (-1)) T := rfl
    rw [e, ih, getD_set _ _ _ _ _ (by omega), List.contains_cons]
    by_cases hiv : v.toNat = i
    · rw [if_pos hiv]
      have : ((i : Int) == v) = true := by rw [beq_iff_eq]; omega
      rw [this, Bool.true_or, cond_true]
      cases T.contains (i : Int) <;> rfl
    · rw [if_neg hiv]
      have : ((i : Int) == v) = false := by rw [beq_eq_false_iff_ne]; omega
      rw [this, Bool.false_or]
section
variable {N : Nat} (hN : 1000 < N)
include hN
theorem rright_eq (l : List Pond) : r39_Right N l = some (rightS l) := by
  unfold r39_Right rightS
  cases hq : decide ((l.length : Int) > 8) with
  | true => rfl
  | false =>
    have hl : l.length ≤ 8 := by simp at hq; omega
    rw [cond_false, search (fun i => errP l i != 0) (fun i => errP l i) () l.length (by omega) (fun i hi => ?_) (by simp)]
    · cases fst (fun i => errP l i != 0) l.length <;> rfl
    · simp only [dlt hi, dge, Bool.and_self, cond_true, Int.toNat_natCast, cond_or, Option.bind_some, wrapN (show i < 9223372036854775807 by omega)]
      have hin : ∀ p : Pond, (decide (p.ID < 1) || (decide (p.ID > 9999) || (decide (p.Least < 0) || (decide (p.Least > p.Volume) || (decide (p.Volume > p.Most) || (decide (p.Most > 1000000000) || (decide (p.Inflow < 0) || decide (p.Inflow > 10000000)))))))) = rangeP p := by
        intro p
        unfold rangeP
        rw [Bool.eq_iff_iff]
        simp only [Bool.or_eq_true, decide_eq_true_eq]
        omega
      rw [hin]
      unfold errP
      cases rangeP (l.getD i z_Pond) with
      | true => rfl
      | false =>
        have hsg : seenP l i (l.getD i z_Pond).ID = (fst (fun j => (l.getD j z_Pond).ID == (l.getD i z_Pond).ID) i).isSome := rfl
        simp only [cond_false]
        rw [hsg, search (fun j => (l.getD j z_Pond).ID == (l.getD i z_Pond).ID) (fun _ => (7 : Int)) () i (by omega) (fun j hj => ?_) (by simp)]
        · cases fst (fun j => (l.getD j z_Pond).ID == (l.getD i z_Pond).ID) i <;> rfl
        · simp only [dlt hj, dge, dlt (show j < l.length by omega), Bool.and_self, cond_true, Int.toNat_natCast, wrapN (show j < 9223372036854775807 by omega)]
theorem rfill_eq (l : List Pond) (x : Int) (hl : l.length ≤ 8) : r39_Fill N l x = some (fillS l x) := by
  unfold r39_Fill fillS
  rw [cond_or, Option.bind_some]
  cases hq : (decide (x < 0) || decide (x > 86400)) with
  | true => rfl
  | false =>
    rw [cond_false]
    refine (bindT (fun i => ((l.take i).map (fillP x), sumW (l.take i) x, (i : Int))) (by simp [sumW]) (l.map (fillP x), sumW l x) l.length (show l.length < N by omega) (fun i hi => ?_) ?_).trans rfl
    · have hb : decide ((((l.take i).map (fillP x)).length + [fillP x (l.getD i z_Pond)].length) * 40 ≤ 140737488355328) = true := by
        simp only [List.length_map, List.length_take, List.length_singleton, decide_eq_true_eq]; omega
      simp only [dlt hi, dge, Bool.and_self, cond_true, Int.toNat_natCast, Option.bind_some, wrapC (show i < 9223372036854775807 by omega)]
      rw [sumW_step l x i hi, take_getD l i z_Pond hi, List.map_append]
      refine (congrArg (fun b => bif b then _ else _) hb).trans ?_
      rfl
    · simp only [dnlt, cond_false, List.take_length]
theorem rtotal_eq (l : List Pond) (hl : l.length ≤ 8) (h : ∀ p, p ∈ l → PondOk p) : r39_Total N l = some (totI l) := total_eq hN l hl h
theorem rspare_eq (l : List Pond) (hl : l.length ≤ 8) (h : ∀ p, p ∈ l → PondOk p) : r39_Spare N l = some (spaI l) := by
  unfold r39_Spare
  refine (bindT (fun i => (spaI (l.take i), (i : Int))) rfl (spaI l) l.length (show l.length < N by omega) (fun i hi => ?_) ?_).trans rfl
  · have hp := h _ (getD_mem l i z_Pond hi)
    unfold PondOk at hp
    have hb := sum_bound (fun p : Pond => p.Volume - p.Least) 1000000000 (l.take i) (fun p hp' => by have := h p (List.mem_of_mem_take hp'); unfold PondOk at this; omega)
    have hlen : (l.take i).length ≤ 8 := by simp; omega
    have hs := sum_step (fun p : Pond => p.Volume - p.Least) l z_Pond i hi
    have e : spaI (l.take i) = ((l.take i).map fun p => p.Volume - p.Least).sum := rfl
    simp only [dlt hi, dge, Bool.and_self, cond_true, Int.toNat_natCast, wrapC (show i < 9223372036854775807 by omega)]
    rw [wrap64 (z := spaI (l.take i) + (l.getD i z_Pond).Volume) (by omega) (by omega), wrap64 (by omega) (by omega), show spaI (l.take (i + 1)) = _ from hs, e]
    simp only [Int.add_sub_assoc]
  · simp only [dnlt, cond_false, List.take_length]
theorem rsum_eq (l : List Int) (hl : l.length ≤ 900) (h : ∀ x, x ∈ l → 0 ≤ x ∧ x ≤ 1000000000000) : r34_sum N l = some l.sum := by
  unfold r34_sum
  refine (bindT (fun i => ((l.take i).sum, (i : Int))) rfl l.sum l.length (show l.length < N by omega) (fun i hi => ?_) ?_).trans rfl
  · have hp := h _ (getD_mem l i 0 hi)
    have hb := sum_bound (fun x : Int => x) 1000000000000 (l.take i) (fun x hx => h x (List.mem_of_mem_take hx))
    have hs := sum_step (fun x : Int => x) l 0 i hi
    simp only [List.map_id'] at hb hs
    have hlen : (l.take i).length ≤ 900 := by simp; omega
    simp only [dlt hi, dge, Bool.and_self, cond_true, Int.toNat_natCast, wrapC (show i < 9223372036854775807 by omega)]
    rw [wrap64 (by omega) (by omega), hs]
  · simp only [dnlt, cond_false, List.take_length]
end
def bestB (R : List Int) : Int × Int → Option ((Int × Int) ⊕ Int) := (fun (p17 : Int × Int) => bif decide (p17.snd < (↑(List.length R) : Int)) then bif decide ((0 : Int) ≤ p17.snd) && decide (p17.snd < (↑(List.length R) : Int)) then bif decide ((0 : Int) ≤ p17.fst) && decide (p17.fst < (↑(List.length R) : Int)) then (bif decide (List.getD R (Int.toNat p17.snd) (0 : Int) > List.getD R (Int.toNat p17.fst) (0 : Int)) then some p17.snd else some p17.fst).bind fun (r18 : Int) => some (Sum.inl (r18, IntKind.i64.wrap (p17.snd + (1 : Int)))) else none else none else some (Sum.inr p17.fst))
theorem best_spec {N : Nat} (hN : 1000 < N) {R : List Int} {n t : Nat} (hR : R.length = n) (hn : n ≤ 8) (ht : t < n) (h1 : ∀ j, j < n → R.getD j 0 ≤ R.getD t 0) (h2 : ∀ j, j < t → R.getD j 0 < R.getD t 0) : whileF N (bestB R) (0, 1) = some (t : Int) := by
  suffices h : ∃ r, whileF N (bestB R) (0, 1) = some r ∧ ∃ b : Nat, r = (b : Int) ∧ b < n ∧ (∀ j, j < n → R.getD j 0 ≤ R.getD b 0) ∧ ∀ j, j < b → R.getD j 0 < R.getD b 0 by
    obtain ⟨r, e1, b, rfl, e2, e3, e4⟩ := h
    rw [e1]
    have : b = t := by
      rcases Nat.lt_trichotomy b t with h | h | h
      · have := h2 b h; have := e3 t ht; omega
      · exact h
      · have := e4 t h; have := h1 b e2; omega
    rw [this]
  have hzero : ∀ j, j ≤ 0 → R.getD j 0 ≤ R.getD 0 0 := fun j hj => by rw [Nat.le_zero.1 hj]; exact Int.le_refl _
  refine whileF_inv (fun i (s : Int × Int) => s.2 = ((i + 1 : Nat) : Int) ∧ ∃ b : Nat, s.1 = (b : Int) ∧ b ≤ i ∧ (∀ j, j ≤ i → R.getD j 0 ≤ R.getD b 0) ∧ ∀ j, j < b → R.getD j 0 < R.getD b 0) _ (n - 1) ⟨rfl, 0, rfl, by omega, hzero, fun j hj => by omega⟩ (fun i s hi hI => .inl ?_) (fun s hI => ?_) (by omega)
  · obtain ⟨b', k⟩ := s
    obtain ⟨hk, b, hb, hbi, h3, h4⟩ := hI
    simp only at hk hb
    subst hk
    subst hb
    have e1 : i + 1 < n := by omega
    unfold bestB
    simp only [hR, dlt e1, dge, dlt (show b < n by omega), Bool.and_self, cond_true, Int.toNat_natCast, wrapC (show i + 1 < 9223372036854775807 by omega)]
    by_cases hgt : R.getD (i + 1) 0 > R.getD b 0
    · simp only [hgt, decide_true, cond_true, Option.bind_some]
      refine ⟨_, rfl, rfl, i + 1, rfl, Nat.le_refl _, fun j hj => ?_, fun j hj => ?_⟩
      · by_cases hj' : j = i + 1
        · subst hj'; exact Int.le_refl _
        · have := h3 j (by omega); omega
      · have := h3 j (by omega); omega
    · simp only [hgt, decide_false, cond_false, Option.bind_some]
      refine ⟨_, rfl, rfl, b, rfl, by omega, fun j hj => ?_, h4⟩
      by_cases hj' : j = i + 1
      · subst hj'; omega
      · exact h3 j (by omega)
  · obtain ⟨b', k⟩ := s
    obtain ⟨hk, b, hb, hbi, h3, h4⟩ := hI
    simp only at hk hb
    subst hk
    subst hb
    have e1 : n - 1 + 1 = n := by omega
    refine ⟨(b : Int), ?_, b, rfl, by omega, fun j hj => h3 j (by omega), h4⟩
    unfold bestB
    simp only [e1, hR, dnlt, cond_false]
section
variable {N : Nat} (hN : 1000 < N) {a : Int} {ws : List Int} (g : Good a ws)
include hN g
theorem rsplit_eq {o : List Int} (hS : Sorted (ws.map (rF a ws.sum)) ws.length o) :
    r34_Split N a ws = some (incs (ws.map (qF a ws.sum)) (o.take (a - (ws.map (qF a ws.sum)).sum).toNat), 0) := by
  obtain ⟨h1, h2, h3, h4⟩ := g.sum
  have hl := g.len
  have hp := g.pos
  obtain ⟨L1, L2, L3⟩ := g.left
  obtain ⟨o1, o2, o3⟩ := sorted_facts hS
  unfold r34_Split
  have c1 : decide ((ws.length : Int) > 64) = false := by rw [decide_eq_false_iff_not]; omega
  have c2 : decide (a < 0) = false := by rw [decide_eq_false_iff_not]; omega
  have c3 : decide (a > 1099511627776) = false := by rw [decide_eq_false_iff_not]; omega
  have c4 : (ws.sum == 0) = false := by rw [beq_eq_false_iff_ne]; omega
  simp only [c1, c2, c3, cond_false, cond_or, Bool.or_self, Option.bind_some]
  rw [through () ws.length (by omega) (fun i hi => ?_) (by simp)]
  · simp only [Option.bind_some, Sum.elim_inl, rsum_eq hN ws (by omega) (fun x hx => by have := g.wt x hx; omega), c4, cond_false]
    refine (bindT (fun i => ((ws.take i).map (qF a ws.sum), (ws.take i).map (rF a ws.sum), (i : Int))) rfl (ws.map (qF a ws.sum), ws.map (rF a ws.sum)) ws.length (show ws.length < N by omega) (fun i hi => ?_) ?_).trans ?_
    · have hw := getD_mem ws i 0 hi
      have hb := g.wt _ hw
      have hqt : r34_Quotient N a (ws.getD i 0) ws.sum = some (qF a ws.sum (ws.getD i 0), rF a ws.sum (ws.getD i 0)) := quot_eq hN (by omega) (by omega) hb.1 hb.2 h2 (by omega) (h4 _ hw)
      have b1 : ∀ f : Int → Int, ∀ x : Int, decide ((((ws.take i).map f).length + [x].length) * 8 ≤ 140737488355328) = true := fun f x => by
        simp only [List.length_map, List.length_take, List.length_singleton, decide_eq_true_eq]; omega
      simp only [dlt hi, dge, Bool.and_self, cond_true, Int.toNat_natCast, hqt, Option.bind_some, b1, wrapC (show i < 9223372036854775807 by omega)]
      rw [take_getD ws i 0 hi, List.map_append, List.map_append]
      rfl
    · simp only [dnlt, cond_false, List.take_length]
    · obtain ⟨lf, hlf⟩ : ∃ lf : Nat, a - (ws.map (qF a ws.sum)).sum = lf := ⟨(a - (ws.map (qF a ws.sum)).sum).toNat, by omega⟩
      rw [hlf] at L2 L3 ⊢
      rw [Int.toNat_natCast]
      have hqb : ∀ x, x ∈ ws.map (qF a ws.sum) → 0 ≤ x ∧ x ≤ 8000000000 := fun x hx => by
        obtain ⟨w, hw, rfl⟩ := List.mem_map.1 hx
        have := g.q hw
        omega
      have hTo : ∀ m, ∀ v, v ∈ o.take m → 0 ≤ v ∧ v < ((ws.map (qF a ws.sum)).length : Int) := fun m v hv => by rw [List.length_map]; exact o2 v (List.mem_of_mem_take hv)
      have hsum : ∀ m, m ≤ lf → r34_sum N (incs (ws.map (qF a ws.sum)) (o.take m)) = some ((ws.map (qF a ws.sum)).sum + (m : Int)) := fun m hm => by
        have htl : (o.take m).length = m := by simp; omega
        obtain ⟨s1, s2⟩ := incs_spec (o.take m) (ws.map (qF a ws.sum)) 8000000000 hqb (hTo m) (by omega) (by rw [htl]; omega)
        rw [htl] at s1 s2
        rw [rsum_eq hN _ (by rw [incs_len, List.length_map]; omega) (fun x hx => by have := s2 x hx; omega), s1]
      refine (bindT (fun m => (incs (ws.map (qF a ws.sum)) (o.take m), marks (ws.map (rF a ws.sum)) (o.take m))) rfl (incs (ws.map (qF a ws.sum)) (o.take lf), marks (ws.map (rF a ws.sum)) (o.take lf)) lf (show lf < N by omega) (fun m hm => ?_) ?_).trans rfl
      · have hmo : m < o.length := by omega
        have htl : (o.take m).length = m := by simp; omega
        have d1 : decide ((ws.map (qF a ws.sum)).sum + (m : Int) < a) = true := by rw [decide_eq_true_eq]; omega
        obtain ⟨t, ht⟩ : ∃ t : Nat, o.getD m 0 = (t : Int) := ⟨(o.getD m 0).toNat, by have := o2 _ (getD_mem o m 0 hmo); omega⟩
        have htn : t < ws.length := by have := o2 _ (getD_mem o m 0 hmo); omega
        have hrb : ∀ i : Nat, i < ws.length → 0 ≤ (ws.map (rF a ws.sum)).getD i 0 := fun i hi => by rw [getD_map _ ws i 0 0 hi]; exact (g.q (getD_mem ws i 0 hi)).2.2.1
        have hmg : ∀ i : Nat, i < ws.length → (marks (ws.map (rF a ws.sum)) (o.take m)).getD i 0 = bif (o.take m).contains (i : Int) then -1 else (ws.map (rF a ws.sum)).getD i 0 := fun i hi =>
          marks_get (o.take m) (ws.map (rF a ws.sum)) (fun v hv => by rw [List.length_map]; exact o2 v (List.mem_of_mem_take hv)) i (by rw [List.length_map]; exact hi)
        -- the order: what is there, the next one, what follows
        have hsplit : o = o.take m ++ (t : Int) :: o.drop (m + 1) := by
          conv => lhs; rw [← List.take_append_drop m o]
          rw [List.drop_eq_getElem_cons hmo, ← ht]
          simp [List.getD, List.getElem?_eq_getElem hmo]
        have hnd := o3
        rw [hsplit, List.nodup_append] at hnd
        have hnt : (o.take m).contains (t : Int) = false := by
          rw [List.contains_eq_mem, decide_eq_false_iff_not]
          intro h
          exact hnd.2.2 _ h _ (List.mem_cons_self ..) rfl
        have hpw := hS.2
        rw [hsplit, List.pairwise_append, List.pairwise_cons] at hpw
        have hRt : (marks (ws.map (rF a ws.sum)) (o.take m)).getD t 0 = (ws.map (rF a ws.sum)).getD t 0 := by rw [hmg t htn, hnt]; rfl
        have key : ∀ j : Nat, j < ws.length → j ≠ t → (marks (ws.map (rF a ws.sum)) (o.take m)).getD j 0 ≤ (marks (ws.map (rF a ws.sum)) (o.take m)).getD t 0 ∧ (j < t → (marks (ws.map (rF a ws.sum)) (o.take m)).getD j 0 < (marks (ws.map (rF a ws.sum)) (o.take m)).getD t 0) := fun j hj hjt => by
          rw [hRt, hmg j hj]
          have ht0 := hrb t htn
          cases hc : (o.take m).contains (j : Int) with
          | true =>
            rw [cond_true]
            exact ⟨by omega, fun _ => by omega⟩
          | false =>
            rw [cond_false]
            have hjo : (j : Int) ∈ o := hS.1.mem_iff.2 (idx_mem.2 (by omega))
            have hjd : (j : Int) ∈ o.drop (m + 1) := by
              rw [hsplit] at hjo
              rcases List.mem_append.1 hjo with h | h
              · rw [List.contains_eq_mem, decide_eq_false_iff_not] at hc
                exact absurd h hc
              · rcases List.mem_cons.1 h with h | h
                · omega
                · exact h
            have hlt := hpw.2.1.1 _ hjd
            have e1 : rat (ws.map (rF a ws.sum)) (t : Int) = (ws.map (rF a ws.sum)).getD t 0 := by unfold rat; rw [Int.toNat_natCast]
            have e2 : rat (ws.map (rF a ws.sum)) (j : Int) = (ws.map (rF a ws.sum)).getD j 0 := by unfold rat; rw [Int.toNat_natCast]
            unfold ltR at hlt
            rw [e1, e2] at hlt
            omega
        have hbest := best_spec hN (R := marks (ws.map (rF a ws.sum)) (o.take m)) (n := ws.length) (t := t) (by rw [marks_len, List.length_map]) hl htn (fun j hj => by
            by_cases hjt : j = t
            · subst hjt; exact Int.le_refl _
            · exact (key j hj hjt).1) (fun j hj => (key j (by omega) (by omega)).2 hj)
        simp only [hsum m (by omega), Option.bind_some, d1, cond_true]
        refine (bind_while (r0 := (t : Int)) hbest).trans ?_
        simp only [dge, incs_len, marks_len, List.length_map, dlt htn, Bool.and_self, cond_true, Int.toNat_natCast, Option.bind_some]
        rw [incs_step _ o m hmo, marks_step _ o m hmo, ht, Int.toNat_natCast]
        unfold inc1
        rw [Int.toNat_natCast]
      · have d1 : decide ((ws.map (qF a ws.sum)).sum + (lf : Int) < a) = false := by rw [decide_eq_false_iff_not]; omega
        simp only [hsum lf (by omega), Option.bind_some, d1, cond_false]
  · have hw := g.wt _ (getD_mem ws i 0 hi)
    have d1 : decide (ws.getD i 0 < 0) = false := by rw [decide_eq_false_iff_not]; omega
    have d2 : decide (ws.getD i 0 > 1000000000) = false := by rw [decide_eq_false_iff_not]; omega
    simp only [dlt hi, dge, Bool.and_self, cond_true, Int.toNat_natCast, d1, d2, cond_false, Option.bind_some, Bool.or_self, wrapN (show i < 9223372036854775807 by omega)]
theorem split_both : ∃ o, Sorted (ws.map (rF a ws.sum)) ws.length o ∧ split_Split N a ws = some (incs (ws.map (qF a ws.sum)) (o.take (a - (ws.map (qF a ws.sum)).sum).toNat), 0) ∧
    r34_Split N a ws = some (incs (ws.map (qF a ws.sum)) (o.take (a - (ws.map (qF a ws.sum)).sum).toNat), 0) := by
  obtain ⟨o, h1, h2⟩ := sort_spec hN (rs := ws.map (rF a ws.sum)) (n := ws.length) (by simp) g.len
  exact ⟨o, h2, split_eq hN g h1 h2, rsplit_eq hN g h2⟩
end
section
variable {N : Nat} (hN : 1000 < N) {l : List Pond} (hl : l.length ≤ 8) (h : ∀ p, p ∈ l → PondOk p)
include hN hl h
theorem take_high {x : Int} (hx : 0 ≤ x) (h1 : spaI l < x) : pond_Take N l x = some ([], 9) ∧ r39_Take N l x = some ([], 9) := by
  unfold pond_Take r39_Take
  have c1 : decide (x < 0) = false := by rw [decide_eq_false_iff_not]; omega
  have c2 : decide (x > spaI l) = true := by rw [decide_eq_true_eq]; omega
  simp only [c1, cond_false, spare_eq hN l hl h, rspare_eq hN l hl h, Option.bind_some, c2, cond_true, and_self]
omit h in
theorem rtake_loop {ps : List Int} (hps : ps.length = l.length) :
    (whileF N (fun (p10 : List Pond × Int) =>
      bif decide (p10.snd < (↑l.length : Int)) then
        bif decide ((0 : Int) ≤ p10.snd) && decide (p10.snd < (↑l.length : Int)) then
          bif decide ((0 : Int) ≤ p10.snd) && decide (p10.snd < (↑ps.length : Int)) then
            (some [Pond.mk (l.getD (Int.toNat p10.snd) z_Pond).ID (IntKind.i64.wrap ((l.getD (Int.toNat p10.snd) z_Pond).Volume - ps.getD (Int.toNat p10.snd) (0 : Int))) (l.getD (Int.toNat p10.snd) z_Pond).Least
                (l.getD (Int.toNat p10.snd) z_Pond).Most (l.getD (Int.toNat p10.snd) z_Pond).Inflow]).bind fun (r11 : List Pond) =>
              bif decide ((List.length p10.fst + r11.length) * 40 ≤ 140737488355328) then
                (some (p10.fst ++ r11)).bind fun (r12 : List Pond) => some (Sum.inl (r12, IntKind.i64.wrap (p10.snd + (1 : Int))))
              else none
          else none
        else none
      else some (Sum.inr p10.fst)) ([], (0 : Int))).bind (fun (r13 : List Pond) => some (r13, (0 : Int))) = some (takeL l ps, 0) := by
  have htl := take_len hps
  refine (bindT (fun i => ((takeL l ps).take i, (i : Int))) rfl (takeL l ps) l.length (show l.length < N by omega) (fun i hi => ?_) ?_).trans rfl
  · have hi' : i < ps.length := by omega
    have b1 : ∀ x : Pond, decide ((((takeL l ps).take i).length + [x].length) * 40 ≤ 140737488355328) = true := fun x => by
      simp only [List.length_take, List.length_singleton, decide_eq_true_eq]; omega
    simp only [dlt hi, dge, dlt hi', Bool.and_self, cond_true, Int.toNat_natCast, Option.bind_some, b1, wrapC (show i < 9223372036854775807 by omega)]
    rw [take_getD (takeL l ps) i z_Pond (by omega), take_get hi hi']
    rfl
  · have : (takeL l ps).take l.length = takeL l ps := by rw [← htl, List.take_length]
    simp only [dnlt, cond_false, this]
theorem rweights {γ : Type} (K : List Int → Option γ) :
    (whileF N (fun (p3 : List Int × Int) =>
      bif decide (p3.snd < (↑l.length : Int)) then
        bif decide ((0 : Int) ≤ p3.snd) && decide (p3.snd < (↑l.length : Int)) then
          bif decide ((0 : Int) ≤ p3.snd) && decide (p3.snd < (↑l.length : Int)) then
            (some [IntKind.i64.wrap ((l.getD (Int.toNat p3.snd) z_Pond).Volume - (l.getD (Int.toNat p3.snd) z_Pond).Least)]).bind fun (r4 : List Int) =>
              bif decide ((List.length p3.fst + r4.length) * 8 ≤ 140737488355328) then
                (some (p3.fst ++ r4)).bind fun (r5 : List Int) => some (Sum.inl (r5, IntKind.i64.wrap (p3.snd + (1 : Int))))
              else none
          else none
        else none
      else some (Sum.inr p3.fst)) ([], (0 : Int))).bind K = K (wsOf l) := by
  have hwl : (wsOf l).length = l.length := by simp [wsOf]
  refine bindT (fun i => ((wsOf l).take i, (i : Int))) rfl (wsOf l) l.length (show l.length < N by omega) (fun i hi => ?_) ?_
  · have b1 : ∀ x : Int, decide ((((wsOf l).take i).length + [x].length) * 8 ≤ 140737488355328) = true := fun x => by
      simp only [List.length_take, List.length_singleton, decide_eq_true_eq]; omega
    have hp := h _ (getD_mem l i z_Pond hi)
    unfold PondOk at hp
    simp only [dlt hi, dge, Bool.and_self, cond_true, Int.toNat_natCast, Option.bind_some, b1, wrapC (show i < 9223372036854775807 by omega)]
    rw [take_getD (wsOf l) i 0 (by omega), wrap64 (by omega) (by omega)]
    have : (wsOf l).getD i 0 = (l.getD i z_Pond).Volume - (l.getD i z_Pond).Least := getD_map _ l i z_Pond 0 hi
    rw [this]
  · have : (wsOf l).take l.length = wsOf l := by rw [← hwl, List.take_length]
    simp only [dnlt, cond_false, this]
theorem take_zero : pond_Take N l 0 = some (l, 0) ∧ r39_Take N l 0 = some (l, 0) := by
  have hs := (sum_ge (wsOf l) (fun w hw => by
    obtain ⟨p, hp, rfl⟩ := List.mem_map.1 hw
    have := h p hp
    unfold PondOk at this
    omega)).1
  have hs' : 0 ≤ spaI l := hs
  have c1 : decide ((0 : Int) > spaI l) = false := by rw [decide_eq_false_iff_not]; omega
  constructor
  · unfold pond_Take
    have c0 : decide ((0 : Int) < 0) = false := by decide
    simp only [c0, cond_false, spare_eq hN l hl h, Option.bind_some, c1, clone_eq l (show l.length ≤ 900 by omega), beq_self_eq_true, cond_true]
  · unfold r39_Take
    have c0 : decide ((0 : Int) < 0) = false := by decide
    have c3 : decide ((0 : Int) > 0) = false := by decide
    have d1 : decide ((l.length : Int) ≤ (l.length : Int)) = true := by simp
    have d2 : decide ((l.length : Int) * 8 ≤ 140737488355328) = true := by rw [decide_eq_true_eq]; omega
    simp only [c0, cond_false, rspare_eq hN l hl h, Option.bind_some, c1]
    refine (rweights hN hl h _).trans ?_
    simp only [d1, d2, Bool.and_self, cond_true, Int.toNat_natCast, c3, cond_false, Option.bind_some]
    refine (rtake_loop hN hl (ps := List.replicate l.length 0) (by simp)).trans ?_
    have : takeL l (List.replicate l.length 0) = l := by
      refine list_ext z_Pond (take_len (by simp)) fun i hi => ?_
      rw [take_len (by simp)] at hi
      rw [take_get hi (by simpa using hi)]
      have hp := h _ (getD_mem l i z_Pond hi)
      unfold PondOk at hp
      have hz : (List.replicate l.length (0 : Int)).getD i 0 = 0 := by simp [List.getD, List.getElem?_replicate, hi]
      rw [hz]
      unfold takeP
      rw [Int.sub_zero, wrap64 (by omega) (by omega)]
    rw [this]
theorem take_both {x : Int} (hx : 0 < x) (h1 : x ≤ spaI l) : ∃ o, Sorted ((wsOf l).map (rF x (wsOf l).sum)) (wsOf l).length o ∧ pond_Take N l x = some (takeL l (partsOf x (wsOf l) o), 0) ∧ r39_Take N l x = some (takeL l (partsOf x (wsOf l) o), 0) := by
  have g := good_of hl h hx h1
  obtain ⟨o, hS, e1, e2⟩ := split_both hN g
  have hpf := parts_facts g hS
  have hwl : (wsOf l).length = l.length := by simp [wsOf]
  have hpl : (partsOf x (wsOf l) o).length = l.length := by rw [hpf.1, hwl]
  have e1' : split_Split N x (wsOf l) = some (partsOf x (wsOf l) o, 0) := e1
  have e2' : r34_Split N x (wsOf l) = some (partsOf x (wsOf l) o, 0) := e2
  have c0 : decide (x < 0) = false := by rw [decide_eq_false_iff_not]; omega
  have c1 : decide (x > spaI l) = false := by rw [decide_eq_false_iff_not]; omega
  have c2 : (x == 0) = false := by rw [beq_eq_false_iff_ne]; omega
  have c3 : decide (x > 0) = true := by rw [decide_eq_true_eq]; omega
  have d1 : decide ((l.length : Int) ≤ (l.length : Int)) = true := by simp
  have d2 : decide ((l.length : Int) * 8 ≤ 140737488355328) = true := by rw [decide_eq_true_eq]; omega
  refine ⟨o, hS, ?_, ?_⟩
  · unfold pond_Take
    simp only [c0, cond_false, spare_eq hN l hl h, Option.bind_some, c1, clone_eq l (show l.length ≤ 900 by omega), c2, d1, d2, Bool.and_self, cond_true, Int.toNat_natCast]
    have m1 : (wsOf l).length = (List.replicate l.length (0 : Int)).length := by rw [hwl, List.length_replicate]
    refine (bindT (fun i => ((i : Int), mixd (wsOf l) (List.replicate l.length 0) i)) (by simp [mixd_zero]) (wsOf l) l.length (show l.length < N by omega) (fun i hi => ?_) ?_).trans ?_
    · have hi' : i < (List.replicate l.length (0 : Int)).length := by rw [List.length_replicate]; exact hi
      have hp := h _ (getD_mem l i z_Pond hi)
      unfold PondOk at hp
      have hw : IntKind.i64.wrap ((l.getD i z_Pond).Volume - (l.getD i z_Pond).Least) = (wsOf l).getD i 0 := by
        rw [wrap64 (by omega) (by omega)]; exact (getD_map (fun p : Pond => p.Volume - p.Least) l i z_Pond 0 hi).symm
      simp only [dlt hi, dge, Bool.and_self, cond_true, Int.toNat_natCast, mixd_len m1, dlt hi', Option.bind_some, hw, wrapC (show i < 9223372036854775807 by omega)]
      rw [mixd_set m1 hi' _ 0 rfl]
    · have := mixd_all m1
      rw [List.length_replicate] at this
      simp only [dnlt, cond_false, this]
    · simp only [e1', Option.bind_some, bne_self_eq_false, cond_false, hpl]
      have m2 : (takeL l (partsOf x (wsOf l) o)).length = l.length := take_len hpl
      refine (bindT (fun i => ((i : Int), mixd (takeL l (partsOf x (wsOf l) o)) l i)) (by simp [mixd_zero]) (takeL l (partsOf x (wsOf l) o)) l.length (show l.length < N by omega) (fun i hi => ?_) ?_).trans rfl
      · simp only [dlt hi, dge, Bool.and_self, cond_true, Int.toNat_natCast, mixd_len m2, mixd_getD m2 hi, Option.bind_some, wrapC (show i < 9223372036854775807 by omega)]
        rw [← mixd_set m2 hi _ z_Pond (take_get hi (by omega)).symm]
        rfl
      · have := mixd_all m2
        simp only [dnlt, cond_false, this]
  · unfold r39_Take
    simp only [c0, cond_false, rspare_eq hN l hl h, Option.bind_some, c1]
    refine (rweights hN hl h _).trans ?_
    simp only [d1, d2, Bool.and_self, cond_true, Int.toNat_natCast, c3, Option.bind_some, e2']
    exact rtake_loop hN hl hpl
end
end Go.Proofs.YtkhkblihdabnoaaGreat.Pn

/- Snowmaking: the pumps and their reference choose the same power. No condition. -/
namespace Go.Proofs.YtkhkblihdabnoaaGreat
open Go.Cm Go.Proofs
/-! Right -/
def rangeU (p : Pump) : Bool := decide (p.ID < 1) || (decide (p.ID > 9999) || (decide (p.Flow < 1) || (decide (p.Flow > 1000000) || (decide (p.Power < 1) || decide (p.Power > 100000000)))))
def seenU (l : List Pump) (i : Nat) (u : Int) : Bool := (fst (fun j => (l.getD j z_Pump).ID == u) i).isSome
def errU (l : List Pump) (i : Nat) : Int := bif rangeU (l.getD i z_Pump) then 2 else bif seenU l i (l.getD i z_Pump).ID then 7 else 0
def rightU (l : List Pump) : Int := bif decide ((l.length : Int) > 8) then 4 else match fst (fun i => errU l i != 0) l.length with
  | some i => errU l i
  | none => 0
def seenFU (l : List Pump) (i : Nat) : Int → Option Bool := fun u => bif seenU l i u then some true else none
theorem seenFU_get (l : List Pump) (i : Nat) (u : Int) : (seenFU l i u).getD false = seenU l i u := by unfold seenFU; cases seenU l i u <;> rfl
theorem seenFU_step (l : List Pump) (i : Nat) : (fun u : Int => bif u == (l.getD i z_Pump).ID then some true else seenFU l i u) = seenFU l (i + 1) := by
  funext u
  have h : seenU l (i + 1) u = (seenU l i u || ((l.getD i z_Pump).ID == u)) := fst_succ _ _
  have h2 : (u == (l.getD i z_Pump).ID) = ((l.getD i z_Pump).ID == u) := BEq.comm
  unfold seenFU
  rw [h, h2]
  cases seenU l i u <;> cases (l.getD i z_Pump).ID == u <;> rfl
section
variable {N : Nat} (hN : 1000 < N)
include hN
theorem uright_eq (l : List Pump) : pump_Right N l = some (rightU l) := by
  unfold pump_Right rightU
  cases hq : decide ((l.length : Int) > 8) with
  | true => rfl
  | false =>
    have hl : l.length ≤ 8 := by simp at hq; omega
    rw [cond_false]
    refine (bindS (fun i => ((i : Int), seenFU l i)) rfl (fun i => errU l i != 0) (fun i => (errU l i, seenFU l i)) (seenFU l l.length) l.length (show l.length < N by omega) (fun i hi _ => ?_) (fun _ => ?_)).trans ?_
    · simp only [dlt hi, dge, Bool.and_self, cond_true, Int.toNat_natCast, cond_or, Option.bind_some, seenFU_get, wrapC (show i < 9223372036854775807 by omega), seenFU_step]
      have hr : (decide ((l.getD i z_Pump).ID < 1) || (decide ((l.getD i z_Pump).ID > 9999) || (decide ((l.getD i z_Pump).Flow < 1) || (decide ((l.getD i z_Pump).Flow > 1000000) || (decide ((l.getD i z_Pump).Power < 1) || decide ((l.getD i z_Pump).Power > 100000000)))))) = rangeU (l.getD i z_Pump) := rfl
      rw [hr]
      unfold errU
      cases rangeU (l.getD i z_Pump) <;> cases seenU l i (l.getD i z_Pump).ID <;> rfl
    · simp only [dnlt, cond_false]
    · cases fst (fun i => errU l i != 0) l.length <;> rfl
theorem ruright_eq (l : List Pump) : r41_Right N l = some (rightU l) := by
  unfold r41_Right rightU
  cases hq : decide ((l.length : Int) > 8) with
  | true => rfl
  | false =>
    have hl : l.length ≤ 8 := by simp at hq; omega
    rw [cond_false, search (fun i => errU l i != 0) (fun i => errU l i) () l.length (by omega) (fun i hi => ?_) (by simp)]
    · cases fst (fun i => errU l i != 0) l.length <;> rfl
    · simp only [dlt hi, dge, Bool.and_self, cond_true, Int.toNat_natCast, cond_or, Option.bind_some, wrapN (show i < 9223372036854775807 by omega)]
      have hr : (decide ((l.getD i z_Pump).ID < 1) || (decide ((l.getD i z_Pump).ID > 9999) || (decide ((l.getD i z_Pump).Flow < 1) || (decide ((l.getD i z_Pump).Flow > 1000000) || (decide ((l.getD i z_Pump).Power < 1) || decide ((l.getD i z_Pump).Power > 100000000)))))) = rangeU (l.getD i z_Pump) := rfl
      rw [hr]
      unfold errU
      cases rangeU (l.getD i z_Pump) with
      | true => rfl
      | false =>
        have hsg : seenU l i (l.getD i z_Pump).ID = (fst (fun j => (l.getD j z_Pump).ID == (l.getD i z_Pump).ID) i).isSome := rfl
        simp only [cond_false]
        rw [hsg, search (fun j => (l.getD j z_Pump).ID == (l.getD i z_Pump).ID) (fun _ => (7 : Int)) () i (by omega) (fun j hj => ?_) (by simp)]
        · cases fst (fun j => (l.getD j z_Pump).ID == (l.getD i z_Pump).ID) i <;> rfl
        · simp only [dlt hj, dge, dlt (show j < l.length by omega), Bool.and_self, cond_true, Int.toNat_natCast, wrapN (show j < 9223372036854775807 by omega)]
/-! sets of pumps -/
omit hN in
theorem fst_contains (c : List Int) (x : Int) : (fst (fun j => c.getD j 0 == x) c.length).isSome = c.contains x := by
  rw [Bool.eq_iff_iff]
  constructor
  · intro h
    cases hf : fst (fun j => c.getD j 0 == x) c.length with
    | none => rw [hf] at h; cases h
    | some j =>
      obtain ⟨a, b, _⟩ := fst_some.1 hf
      rw [List.contains_iff_mem]
      have := getD_mem c j 0 a
      simp only [beq_iff_eq] at b
      rw [b] at this
      exact this
  · intro h
    rw [List.contains_iff_mem] at h
    obtain ⟨j, hj, e⟩ := mem_getD 0 h
    cases hf : fst (fun j => c.getD j 0 == x) c.length with
    | none =>
      have := fst_none.1 hf j hj
      rw [e] at this
      simp at this
    | some j => rfl
theorem contains_eq {c : List Int} (hc : c.length ≤ 900) (x : Int) : sl_Contains_int N c x = some (c.contains x) := by
  unfold sl_Contains_int sl_Index_int
  rw [search (fun j => c.getD j 0 == x) (fun j => (j : Int)) () c.length (by omega) (fun i hi => ?_) (by simp), ← fst_contains]
  · cases fst (fun j => c.getD j 0 == x) c.length with
    | none => rfl
    | some j => simp [sres]
  · have : (x == c.getD i 0) = (c.getD i 0 == x) := BEq.comm
    simp only [dlt hi, dge, Bool.and_self, cond_true, Int.toNat_natCast, this, wrapN (show i < 9223372036854775807 by omega)]
theorem has_eq {c : List Int} (hc : c.length ≤ 900) (x : Int) : r41_has N c x = some (c.contains x) := by
  unfold r41_has
  rw [search (fun j => c.getD j 0 == x) (fun _ => true) () c.length (by omega) (fun i hi => ?_) (by simp), ← fst_contains]
  · cases fst (fun j => c.getD j 0 == x) c.length <;> rfl
  · simp only [dlt hi, dge, Bool.and_self, cond_true, Int.toNat_natCast, wrapN (show i < 9223372036854775807 by omega)]
end
def selS (f : Pump → Int) (l : List Pump) (c : List Int) (i : Nat) : Int := ((List.range i).map fun j : Nat => bif c.contains (j : Int) then f (l.getD j z_Pump) else 0).sum
theorem sel_step (f : Pump → Int) (l : List Pump) (c : List Int) (i : Nat) : selS f l c (i + 1) = selS f l c i + bif c.contains (i : Int) then f (l.getD i z_Pump) else 0 := by
  unfold selS
  rw [List.range_succ, List.map_append, List.sum_append]
  simp
theorem sel_bound {f : Pump → Int} {l : List Pump} {b : Int} (hb : 0 ≤ b) (h : ∀ i, i < l.length → 0 ≤ f (l.getD i z_Pump) ∧ f (l.getD i z_Pump) ≤ b) (c : List Int) (i : Nat) (hi : i ≤ l.length) : 0 ≤ selS f l c i ∧ selS f l c i ≤ b * i := by
  induction i with
  | zero => simp [selS]
  | succ i ih =>
    have := ih (by omega)
    have q := h i (by omega)
    rw [sel_step, Int.natCast_add, Int.mul_add]
    cases c.contains (i : Int) <;> simp only [cond_true, cond_false] <;> omega
def bitsS (n k : Nat) : List Int := ((List.range k).filter fun i => n.testBit i).map fun i : Nat => (i : Int)
theorem bits_step (n k : Nat) : bitsS n (k + 1) = bitsS n k ++ bif n.testBit k then [(k : Int)] else [] := by
  unfold bitsS
  rw [List.range_succ, List.filter_append, List.map_append]
  congr 1
  cases h : n.testBit k <;> simp [h]
theorem bits_len (n k : Nat) : (bitsS n k).length ≤ k := by
  unfold bitsS
  rw [List.length_map]
  exact Nat.le_trans (List.length_filter_le _ _) (by simp)
theorem bits_has (n k j : Nat) : (bitsS n k).contains (j : Int) = (decide (j < k) && n.testBit j) := by
  rw [Bool.eq_iff_iff, List.contains_iff_mem]
  unfold bitsS
  simp only [List.mem_map, List.mem_filter, List.mem_range, Bool.and_eq_true, decide_eq_true_eq]
  constructor
  · rintro ⟨a, ⟨h1, h2⟩, e⟩
    have : a = j := by omega
    subst this
    exact ⟨h1, h2⟩
  · rintro ⟨h1, h2⟩
    exact ⟨j, ⟨h1, h2⟩, rfl⟩
theorem bits_end {n k : Nat} (h : n / 2 ^ k = 0) : ∀ d, bitsS n (k + d) = bitsS n k
  | 0 => rfl
  | d + 1 => by
    rw [show k + (d + 1) = (k + d) + 1 by omega, bits_step, bits_end h d]
    have : n.testBit (k + d) = false := by
      refine Nat.testBit_lt_two_pow ?_
      have h1 : n < 2 ^ k := by
        rcases Nat.div_eq_zero_iff.1 h with h0 | h0
        · have : 0 < 2 ^ k := Nat.pow_pos (by decide)
          omega
        · exact h0
      exact Nat.lt_of_lt_of_le h1 (Nat.pow_le_pow_right (by decide) (by omega))
    rw [this]
    simp
theorem bit_mod (n k : Nat) : n.testBit k = (((n / 2 ^ k : Nat) : Int) % 2 == 1) := by
  rw [Nat.testBit_eq_decide_div_mod_eq, Bool.eq_iff_iff, decide_eq_true_eq, beq_iff_eq]
  omega
section
variable {N : Nat} (hN : 1000 < N)
include hN
theorem members_eq {n : Nat} (hn : n < 256) : pump_members N (n : Int) = some (bitsS n 8) := by
  suffices h : W (fun r => r = bitsS n 8) (pump_members N (n : Int)) by
    obtain ⟨r, e, rfl⟩ := h
    exact e
  unfold pump_members
  refine W_bind (Q' := fun r => r = bitsS n 8) ?_ fun r hr => W_some hr
  have hsh : ∀ i : Nat, i ≤ 8 → shrI IntKind.i64 (n : Int) (i : Int) = ((n / 2 ^ i : Nat) : Int) := fun i hi => by
    rw [Pn.shrN (by omega) (by omega)]
    rw [Int.natCast_ediv, Int.natCast_pow]
    rfl
  refine W_loop (fun i s => s = (bitsS n i, (i : Int))) 8 rfl (fun i s hi hI => ?_) (fun s hI => ?_) (by omega)
  · subst hI
    have hb : ∀ y : Int, decide (((bitsS n i).length + [y].length) * 8 ≤ 140737488355328) = true := fun y => by
      have := bits_len n i
      simp only [List.length_singleton, decide_eq_true_eq]; omega
    have hv : n / 2 ^ i ≤ n := Nat.div_le_self _ _
    have hs := hsh i (by omega)
    have hbm := bit_mod n i
    have hend : n / 2 ^ i = 0 → bitsS n i = bitsS n 8 := fun h0 => by
      have := bits_end h0 (8 - i)
      rw [show i + (8 - i) = 8 by omega] at this
      exact this.symm
    generalize n / 2 ^ i = v at *
    simp only [dge, cond_true, Option.bind_some, hb, hs, Pn.and1 (x := (v : Int)) (by omega) (by omega), wrapC (show i < 9223372036854775807 by omega), ← hbm]
    refine W_cond (fun _ => ?_) (fun h => ?_)
    · rw [bits_step]
      cases n.testBit i
      · exact W_some (by simp)
      · exact W_some rfl
    · exact W_some (hend (by simpa using h))
  · subst hI
    have h0 : n / 2 ^ 8 = 0 := Nat.div_eq_of_lt (by omega)
    have : (shrI IntKind.i64 (n : Int) ((8 : Nat) : Int) != 0) = false := by rw [hsh 8 (by omega), h0]; rfl
    simp only [dge, cond_true, this, cond_false]
    exact W_some rfl
theorem subset_eq {n : Nat} (hn : n < 256) : r41_subset N (n : Int) = some (bitsS n 8) := by
  suffices h : W (fun r => r = bitsS n 8) (r41_subset N (n : Int)) by
    obtain ⟨r, e, rfl⟩ := h
    exact e
  unfold r41_subset
  refine W_bind (Q' := fun r => r = bitsS n 8) ?_ fun r hr => W_some hr
  refine W_loop (fun i s => s = (((n / 2 ^ i : Nat) : Int), bitsS n i, (i : Int))) 8 (by simp [bitsS]) (fun i s hi hI => ?_) (fun s hI => ?_) (by omega)
  · subst hI
    have hb : ∀ y : Int, decide (((bitsS n i).length + [y].length) * 8 ≤ 140737488355328) = true := fun y => by
      have := bits_len n i
      simp only [List.length_singleton, decide_eq_true_eq]; omega
    have hv : n / 2 ^ i ≤ n := Nat.div_le_self _ _
    have hbm := bit_mod n i
    have hend : n / 2 ^ i = 0 → bitsS n i = bitsS n 8 := fun h0 => by
      have := bits_end h0 (8 - i)
      rw [show i + (8 - i) = 8 by omega] at this
      exact this.symm
    have hd : n / 2 ^ (i + 1) = n / 2 ^ i / 2 := by rw [Nat.pow_succ, ← Nat.div_div_eq_div_mul]
    rw [hd]
    generalize n / 2 ^ i = v at *
    have hw : IntKind.i64.wrap ((v : Int).tdiv 2) = ((v / 2 : Nat) : Int) := by
      rw [Int.tdiv_eq_ediv_of_nonneg (by omega), wrap64 (by omega) (by omega)]
      omega
    have hm : (((v : Int).tmod 2) == 1) = n.testBit i := by rw [Int.tmod_eq_emod_of_nonneg (by omega), hbm]
    simp only [Option.bind_some, hb, cond_true, hw, hm, wrapC (show i < 9223372036854775807 by omega)]
    refine W_cond (fun _ => ?_) (fun h => ?_)
    · rw [bits_step]
      cases n.testBit i
      · exact W_some (by simp)
      · exact W_some rfl
    · exact W_some (hend (by rw [decide_eq_false_iff_not] at h; omega))
  · subst hI
    have h0 : n / 2 ^ 8 = 0 := Nat.div_eq_of_lt (by omega)
    simp only [h0]
    exact W_some rfl
variable {l : List Pump} (hl : l.length ≤ 8) (hp : ∀ i, i < l.length → PumpOk (l.getD i z_Pump)) {c : List Int} (hc : c.length ≤ 900)
include hl hp hc
omit hN hl hc in
theorem fl_bound (i : Nat) (hi : i ≤ l.length) : 0 ≤ selS (fun p => p.Flow) l c i ∧ selS (fun p => p.Flow) l c i ≤ 1000000 * i :=
  sel_bound (by omega) (fun i hi => by have := hp i hi; unfold PumpOk at this; omega) c i hi
omit hN hl hc in
theorem pw_bound (i : Nat) (hi : i ≤ l.length) : 0 ≤ selS (fun p => p.Power) l c i ∧ selS (fun p => p.Power) l c i ≤ 100000000 * i :=
  sel_bound (by omega) (fun i hi => by have := hp i hi; unfold PumpOk at this; omega) c i hi
theorem flow_eq : pump_Flow N l c = some (selS (fun p => p.Flow) l c l.length) := by
  unfold pump_Flow
  refine (bindT (fun i => (selS (fun p => p.Flow) l c i, (i : Int))) rfl (selS (fun p => p.Flow) l c l.length) l.length (show l.length < N by omega) (fun i hi => ?_) ?_).trans rfl
  · have hb := fl_bound hp (c := c) (i + 1) (by omega)
    have e := sel_step (fun p => p.Flow) l c i
    simp only [dlt hi, dge, Bool.and_self, cond_true, Int.toNat_natCast, contains_eq hN hc, Option.bind_some, wrapC (show i < 9223372036854775807 by omega)]
    rw [e] at hb ⊢
    cases hcc : c.contains (i : Int) with
    | true => rw [hcc, cond_true] at hb; rw [cond_true, cond_true, wrap64 (by omega) (by omega)]; rfl
    | false => simp
  · simp only [dnlt, cond_false]
theorem rflow_eq : r41_Flow N l c = some (selS (fun p => p.Flow) l c l.length) := by
  unfold r41_Flow
  refine (bindT (fun i => (selS (fun p => p.Flow) l c i, (i : Int))) rfl (selS (fun p => p.Flow) l c l.length) l.length (show l.length < N by omega) (fun i hi => ?_) ?_).trans rfl
  · have hb := fl_bound hp (c := c) (i + 1) (by omega)
    have e := sel_step (fun p => p.Flow) l c i
    simp only [dlt hi, dge, Bool.and_self, cond_true, Int.toNat_natCast, has_eq hN hc, Option.bind_some, wrapC (show i < 9223372036854775807 by omega)]
    rw [e] at hb ⊢
    cases hcc : c.contains (i : Int) with
    | true => rw [hcc, cond_true] at hb; rw [cond_true, cond_true, wrap64 (by omega) (by omega)]; rfl
    | false => simp
  · simp only [dnlt, cond_false]
theorem ppower_eq : pump_Power N l c = some (selS (fun p => p.Power) l c l.length) := by
  unfold pump_Power
  refine (bindT (fun i => (selS (fun p => p.Power) l c i, (i : Int))) rfl (selS (fun p => p.Power) l c l.length) l.length (show l.length < N by omega) (fun i hi => ?_) ?_).trans rfl
  · have hb := pw_bound hp (c := c) (i + 1) (by omega)
    have e := sel_step (fun p => p.Power) l c i
    simp only [dlt hi, dge, Bool.and_self, cond_true, Int.toNat_natCast, contains_eq hN hc, Option.bind_some, wrapC (show i < 9223372036854775807 by omega)]
    rw [e] at hb ⊢
    cases hcc : c.contains (i : Int) with
    | true => rw [hcc, cond_true] at hb; rw [cond_true, cond_true, wrap64 (by omega) (by omega)]; rfl
    | false => simp
  · simp only [dnlt, cond_false]
theorem rppower_eq : r41_Power N l c = some (selS (fun p => p.Power) l c l.length) := by
  unfold r41_Power
  refine (bindT (fun i => (selS (fun p => p.Power) l c i, (i : Int))) rfl (selS (fun p => p.Power) l c l.length) l.length (show l.length < N by omega) (fun i hi => ?_) ?_).trans rfl
  · have hb := pw_bound hp (c := c) (i + 1) (by omega)
    have e := sel_step (fun p => p.Power) l c i
    simp only [dlt hi, dge, Bool.and_self, cond_true, Int.toNat_natCast, has_eq hN hc, Option.bind_some, wrapC (show i < 9223372036854775807 by omega)]
    rw [e] at hb ⊢
    cases hcc : c.contains (i : Int) with
    | true => rw [hcc, cond_true] at hb; rw [cond_true, cond_true, wrap64 (by omega) (by omega)]; rfl
    | false => simp
  · simp only [dnlt, cond_false]
end
/-! the best choice -/
def flB (l : List Pump) (n : Nat) : Int := selS (fun p => p.Flow) l (bitsS n 8) l.length
def pwB (l : List Pump) (n : Nat) : Int := selS (fun p => p.Power) l (bitsS n 8) l.length
def BestQ (l : List Pump) (x : Int) (r : Int × Int) : Prop := (r = (0, 9) ∧ ∀ n, n < 2 ^ l.length → flB l n < x) ∨ (r.2 = 0 ∧ (∃ n, n < 2 ^ l.length ∧ x ≤ flB l n ∧ pwB l n = r.1) ∧ ∀ n, n < 2 ^ l.length → x ≤ flB l n → r.1 ≤ pwB l n)
theorem bestQ_one {l : List Pump} {x : Int} {r q : Int × Int} (h1 : BestQ l x r) (h2 : BestQ l x q) : r = q := by
  rcases h1 with ⟨a, b⟩ | ⟨a, ⟨n, hn, h3, h4⟩, c⟩ <;> rcases h2 with ⟨a', b'⟩ | ⟨a', ⟨n', hn', h3', h4'⟩, c'⟩
  · rw [a, a']
  · have := b n' hn'; omega
  · have := b' n hn; omega
  · have e1 := c n' hn' h3'
    have e2 := c' n hn h3
    exact Prod.ext (by omega) (by omega)
theorem fl_all {l : List Pump} (hl : l.length ≤ 8) (hp : ∀ i, i < l.length → PumpOk (l.getD i z_Pump)) (n : Nat) : flB l n ≤ flB l (2 ^ l.length - 1) := by
  have key : ∀ i, i ≤ l.length → selS (fun p => p.Flow) l (bitsS n 8) i ≤ selS (fun p => p.Flow) l (bitsS (2 ^ l.length - 1) 8) i := fun i => by
    induction i with
    | zero => intro _; exact Int.le_refl _
    | succ i ih =>
      intro hi
      have h1 := ih (by omega)
      have q := hp i (by omega)
      unfold PumpOk at q
      rw [sel_step, sel_step, bits_has (2 ^ l.length - 1), Nat.testBit_two_pow_sub_one]
      have e1 : (decide (i < 8) && decide (i < l.length)) = true := by simp only [Bool.and_eq_true, decide_eq_true_eq]; omega
      rw [e1]
      cases (bitsS n 8).contains (i : Int) <;> simp only [cond_true, cond_false] <;> omega
  exact key l.length (Nat.le_refl _)
section
variable {N : Nat} (hN : 1000 < N) {l : List Pump} (hl : l.length ≤ 8) (hp : ∀ i, i < l.length → PumpOk (l.getD i z_Pump))
include hN hl hp
omit hN hp in
theorem pow_small : 0 < 2 ^ l.length ∧ 2 ^ l.length ≤ 256 := by
  have : 2 ^ l.length ≤ 2 ^ 8 := Nat.pow_le_pow_right (by decide) hl
  have : 2 ^ 8 = 256 := by decide
  have : 0 < 2 ^ l.length := Nat.pow_pos (by decide)
  omega
theorem set_eq {n : Nat} (hn : n < 256) : pump_members N (n : Int) = some (bitsS n 8) ∧ pump_Flow N l (bitsS n 8) = some (flB l n) ∧ pump_Power N l (bitsS n 8) = some (pwB l n) ∧ r41_subset N (n : Int) = some (bitsS n 8) ∧ r41_Flow N l (bitsS n 8) = some (flB l n) ∧ r41_Power N l (bitsS n 8) = some (pwB l n) :=
  have h := bits_len n 8
  ⟨members_eq hN hn, flow_eq hN hl hp (by omega), ppower_eq hN hl hp (by omega), subset_eq hN hn, rflow_eq hN hl hp (by omega), rppower_eq hN hl hp (by omega)⟩
theorem best_q {x : Int} (hx : 0 ≤ x) : W (fun r => BestQ l x r.2) (pump_Best N l x) := by
  obtain ⟨k0, k1⟩ := pow_small hl
  unfold pump_Best
  have c0 : decide (x < 0) = false := by rw [decide_eq_false_iff_not]; omega
  have c1 : decide ((l.length : Int) > 8) = false := by rw [decide_eq_false_iff_not]; omega
  obtain ⟨a1, a2, a3, _⟩ := set_eq hN hl hp (n := 2 ^ l.length - 1) (by omega)
  rw [c0, cond_false, c1, cond_false, shl_small hl, a1, Option.bind_some, a2, Option.bind_some]
  have hall := fl_all hl hp
  refine W_cond (fun h => W_some (.inl ⟨rfl, fun n hn => ?_⟩)) (fun h => ?_)
  · rw [decide_eq_true_eq] at h
    have := hall n
    omega
  rw [decide_eq_false_iff_not] at h
  rw [a3, Option.bind_some]
  refine W_bind (Q' := fun r : List Int × Int => BestQ l x (r.2, 0)) ?_ fun r hr => W_some hr
  refine W_loop (fun i s => s.2.2 = (i : Int) ∧ s.1.length ≤ 8 ∧ (∃ n, n < 2 ^ l.length ∧ x ≤ flB l n ∧ pwB l n = s.2.1) ∧ ∀ n, n < i ∨ n = 2 ^ l.length - 1 → x ≤ flB l n → s.2.1 ≤ pwB l n) (2 ^ l.length - 1) ⟨rfl, bits_len _ 8, ⟨2 ^ l.length - 1, by omega, by omega, rfl⟩, fun n hn _ => ?_⟩ (fun i s hi hI => ?_) (fun s hI => ?_) (by omega)
  · rcases hn with hn | rfl
    · omega
    · exact Int.le_refl _
  · obtain ⟨b, lp, k⟩ := s
    obtain ⟨hk, hb, ⟨m, m1, m2, m3⟩, hm⟩ := hI
    simp only at hk hb m3 hm
    subst hk
    obtain ⟨b1, b2, b3, _⟩ := set_eq hN hl hp (n := i) (by omega)
    simp only [dlt hi, cond_true, b1, b2, b3, Option.bind_some, wrapC (show i < 9223372036854775807 by omega)]
    refine W_bind (Q' := fun r : List Int × Int => r.1.length ≤ 8 ∧ (∃ n, n < 2 ^ l.length ∧ x ≤ flB l n ∧ pwB l n = r.2) ∧ ∀ n, n < i + 1 ∨ n = 2 ^ l.length - 1 → x ≤ flB l n → r.2 ≤ pwB l n) ?_ fun r hr => W_some ⟨rfl, hr⟩
    have hkeep : (x ≤ flB l i → lp ≤ pwB l i) → ∀ n, n < i + 1 ∨ n = 2 ^ l.length - 1 → x ≤ flB l n → lp ≤ pwB l n := fun h n hn hx => by
      by_cases hni : n = i
      · subst hni; exact h hx
      · exact hm n (by omega) hx
    have hnew : pwB l i ≤ lp → ∀ n, n < i + 1 ∨ n = 2 ^ l.length - 1 → x ≤ flB l n → pwB l i ≤ pwB l n := fun h n hn hx => by
      by_cases hni : n = i
      · subst hni; exact Int.le_refl _
      · have := hm n (by omega) hx; omega
    refine W_cond (fun h1 => W_some ⟨hb, ⟨m, m1, m2, m3⟩, hkeep fun h2 => ?_⟩) (fun h1 => ?_)
    · rw [decide_eq_true_eq] at h1
      omega
    rw [decide_eq_false_iff_not] at h1
    refine W_bind (Q' := fun r : Bool => (r = true → pwB l i ≤ lp) ∧ (r = false → lp ≤ pwB l i)) ?_ fun r10 h10 => ?_
    · refine W_cond (fun h2 => W_some ⟨fun _ => ?_, fun h => by cases h⟩) (fun h2 => W_cond (fun h3 => W_bind (compare_tot hN (by have := bits_len i 8; omega)) fun r _ => W_some ⟨fun _ => ?_, fun _ => ?_⟩) (fun h3 => W_some ⟨fun h => (by cases h), fun _ => ?_⟩))
      · rw [decide_eq_true_eq] at h2; omega
      · rw [beq_iff_eq] at h3; omega
      · rw [beq_iff_eq] at h3; omega
      · rw [decide_eq_false_iff_not] at h2; omega
    · refine W_bind (Q' := fun r : List Int × Int => r.1.length ≤ 8 ∧ (∃ n, n < 2 ^ l.length ∧ x ≤ flB l n ∧ pwB l n = r.2) ∧ ∀ n, n < i + 1 ∨ n = 2 ^ l.length - 1 → x ≤ flB l n → r.2 ≤ pwB l n) (W_cond (fun h => W_some ⟨bits_len _ 8, ⟨i, by omega, by omega, rfl⟩, hnew (h10.1 h)⟩) (fun h => W_some ⟨hb, ⟨m, m1, m2, m3⟩, hkeep fun _ => h10.2 h⟩)) fun r hr => W_some hr
  · obtain ⟨b, lp, k⟩ := s
    obtain ⟨hk, hb, hm1, hm⟩ := hI
    simp only at hk
    subst hk
    simp only [dnlt, cond_false]
    exact W_some (.inr ⟨rfl, hm1, fun n hn => hm n (by omega)⟩)
omit hp hl in
theorem less_tot {a b : List Int} (ha : a.length ≤ 900) : W (fun _ => True) (r41_Less N a b) := by
  unfold r41_Less
  refine W_bind (Q' := fun _ => True) ?_ fun r _ => W_elim (fun _ => W_some trivial) (fun _ => W_some trivial)
  refine W_loop (fun i s => s = (i : Int)) a.length rfl (fun i s hi hI => ?_) (fun s hI => ?_) (by omega)
  · subst hI
    simp only [dlt hi, dge, Bool.and_self, cond_true, Bool.true_and, Option.bind_some, wrapC (show i < 9223372036854775807 by omega)]
    refine W_cond (fun h => ?_) (fun _ => W_some trivial)
    simp only [h, cond_true]
    exact W_cond (fun _ => W_some trivial) (fun _ => W_some rfl)
  · subst hI
    simp only [dnlt, cond_false, Option.bind_some]
    exact W_some trivial
theorem rbest_q {x : Int} (hx : 0 ≤ x) : W (fun r => BestQ l x r.2) (r41_Best N l x) := by
  obtain ⟨k0, k1⟩ := pow_small hl
  unfold r41_Best
  have c0 : decide (x < 0) = false := by rw [decide_eq_false_iff_not]; omega
  rw [c0, cond_false]
  refine W_of_eq (bindT (fun i => (((2 ^ i : Nat) : Int), (i : Int))) rfl (((2 ^ l.length : Nat) : Int)) l.length (show l.length < N by omega) (fun i hi => ?_) ?_) ?_
  · have : 2 ^ (i + 1) ≤ 2 ^ 8 := Nat.pow_le_pow_right (by decide) (by omega)
    have e : 2 ^ (i + 1) = 2 * 2 ^ i := by rw [Nat.pow_succ, Nat.mul_comm]
    simp only [dlt hi, cond_true, wrapC (show i < 9223372036854775807 by omega)]
    rw [wrap64 (by omega) (by omega), e]
    rfl
  · simp only [dnlt, cond_false]
  refine W_bind (Q' := fun r : List Int × Int × Bool => (r.2.2 = false → ∀ n, n < 2 ^ l.length → flB l n < x) ∧ (r.2.2 = true → (∃ n, n < 2 ^ l.length ∧ x ≤ flB l n ∧ pwB l n = r.2.1) ∧ ∀ n, n < 2 ^ l.length → x ≤ flB l n → r.2.1 ≤ pwB l n)) ?_ fun r hr => ?_
  · refine W_loop (fun i s => s.2.2.2 = (i : Int) ∧ s.1.length ≤ 8 ∧ (s.2.2.1 = false → ∀ n, n < i → flB l n < x) ∧ (s.2.2.1 = true → (∃ n, n < 2 ^ l.length ∧ x ≤ flB l n ∧ pwB l n = s.2.1) ∧ ∀ n, n < i → x ≤ flB l n → s.2.1 ≤ pwB l n)) (2 ^ l.length) ⟨rfl, by simp, fun _ n hn => by omega, fun h => by cases h⟩ (fun i s hi hI => ?_) (fun s hI => ?_) (by omega)
    · obtain ⟨b, lp, f, k⟩ := s
      obtain ⟨hk, hb, hf, ht⟩ := hI
      simp only at hk hb hf ht
      subst hk
      obtain ⟨_, _, _, b1, b2, b3⟩ := set_eq hN hl hp (n := i) (by omega)
      simp only [dlt hi, cond_true, b1, b2, b3, Option.bind_some, wrapC (show i < 9223372036854775807 by omega)]
      refine W_bind (Q' := fun r : List Int × Int × Bool => r.1.length ≤ 8 ∧ (r.2.2 = false → ∀ n, n < i + 1 → flB l n < x) ∧ (r.2.2 = true → (∃ n, n < 2 ^ l.length ∧ x ≤ flB l n ∧ pwB l n = r.2.1) ∧ ∀ n, n < i + 1 → x ≤ flB l n → r.2.1 ≤ pwB l n)) ?_ fun r hr => W_some ⟨rfl, hr⟩
      refine W_cond (fun h1 => W_some ⟨hb, fun h n hn => ?_, fun h => ⟨(ht h).1, fun n hn hxn => ?_⟩⟩) (fun h1 => ?_)
      · rw [decide_eq_true_eq] at h1
        by_cases hni : n = i
        · subst hni; exact h1
        · exact hf h n (by omega)
      · rw [decide_eq_true_eq] at h1
        by_cases hni : n = i
        · subst hni; omega
        · exact (ht h).2 n (by omega) hxn
      rw [decide_eq_false_iff_not] at h1
      refine W_bind (Q' := fun r : Bool => (r = true → f = true → pwB l i ≤ lp) ∧ (r = false → f = true ∧ lp ≤ pwB l i)) ?_ fun r9 h9 => ?_
      · cases f with
        | false => exact W_some ⟨fun _ h => (by cases h), fun h => by cases h⟩
        | true =>
          simp only [Bool.not_true, cond_false]
          refine W_cond (fun h2 => W_some ⟨fun _ _ => ?_, fun h => by cases h⟩) (fun h2 => W_cond (fun h3 => W_bind (less_tot hN (by have := bits_len i 8; omega)) fun r _ => W_some ⟨fun _ _ => ?_, fun _ => ⟨by trivial, ?_⟩⟩) (fun h3 => W_some ⟨fun h => (by cases h), fun _ => ⟨by trivial, ?_⟩⟩))
          · rw [decide_eq_true_eq] at h2; omega
          · rw [beq_iff_eq] at h3; omega
          · rw [beq_iff_eq] at h3; omega
          · rw [decide_eq_false_iff_not] at h2; omega
      · refine W_bind (Q' := fun r : List Int × Int × Bool => r.1.length ≤ 8 ∧ (r.2.2 = false → ∀ n, n < i + 1 → flB l n < x) ∧ (r.2.2 = true → (∃ n, n < 2 ^ l.length ∧ x ≤ flB l n ∧ pwB l n = r.2.1) ∧ ∀ n, n < i + 1 → x ≤ flB l n → r.2.1 ≤ pwB l n))
          (W_cond (fun h => W_some ⟨bits_len _ 8, fun h => (by cases h), fun _ => ⟨⟨i, by omega, by omega, rfl⟩, fun n hn hxn => ?_⟩⟩) (fun h => W_some ⟨hb, fun h2 => absurd h2 (by rw [(h9.2 h).1]; exact Bool.noConfusion), fun _ => ⟨(ht (h9.2 h).1).1, fun n hn hxn => ?_⟩⟩)) fun r hr => W_some hr
        · by_cases hni : n = i
          · subst hni; exact Int.le_refl _
          · cases f with
            | false => have := hf rfl n (by omega); omega
            | true =>
              have e1 := h9.1 h rfl
              have e2 := (ht rfl).2 n (by omega) hxn
              simp only; omega
        · by_cases hni : n = i
          · subst hni; exact (h9.2 h).2
          · exact (ht (h9.2 h).1).2 n (by omega) hxn
    · obtain ⟨b, lp, f, k⟩ := s
      obtain ⟨hk, hb, hft⟩ := hI
      simp only at hk
      subst hk
      simp only [dnlt, cond_false]
      exact W_some hft
  · obtain ⟨b, lp, f⟩ := r
    cases f with
    | false => exact W_some (.inl ⟨rfl, hr.1 rfl⟩)
    | true => exact W_some (.inr ⟨rfl, hr.2 rfl⟩)
theorem best_same (x : Int) : ∃ a b v, pump_Best N l x = some (a, v) ∧ r41_Best N l x = some (b, v) := by
  by_cases hx : 0 ≤ x
  · obtain ⟨⟨a, v⟩, e1, q1⟩ := best_q hN hl hp hx
    obtain ⟨⟨b, w⟩, e2, q2⟩ := rbest_q hN hl hp hx
    have : v = w := bestQ_one q1 q2
    subst this
    exact ⟨a, b, v, e1, e2⟩
  · have c0 : decide (x < 0) = true := by rw [decide_eq_true_eq]; omega
    unfold pump_Best r41_Best
    rw [c0]
    exact ⟨_, _, _, rfl, rfl⟩
end
end Go.Proofs.YtkhkblihdabnoaaGreat

/- Snowmaking: Right of pipes and of systems is what the references say; the law SnowmakingBalances. No condition. -/
namespace Go.Proofs.YtkhkblihdabnoaaGreat
open Go.Cm Go.Proofs
def rangeI (p : Pipe) : Bool := decide (p.ID < 1) || (decide (p.ID > 9999) || (decide (p.To < 1) || (decide (p.To > 9999) || (decide (p.Loss < 0) || (decide (p.Loss > 100000) || (decide (p.Rise < -100000) || decide (p.Rise > 100000)))))))
def twinI (l : List Pipe) (i j : Nat) : Bool := ((l.getD j z_Pipe).ID == (l.getD i z_Pipe).ID) || ((l.getD j z_Pipe).To == (l.getD i z_Pipe).To)
def leadI (l : List Pipe) (i : Nat) (x : Int) : Bool := (fst (fun j => (l.getD j z_Pipe).To == x) i).isSome
def errI (l : List Pipe) (i : Nat) : Int := bif rangeI (l.getD i z_Pipe) then 2 else bif (fst (twinI l i) i).isSome then 7 else bif ((l.getD i z_Pipe).From == 0) || leadI l i (l.getD i z_Pipe).From then 0 else 8
def rightI (l : List Pipe) : Int := bif decide ((l.length : Int) > 64) then 4 else match fst (fun i => errI l i != 0) l.length with
  | some i => errI l i
  | none => 0
section
variable {N : Nat} (hN : 1000 < N)
include hN
theorem find_eq (l : List Pipe) (hl : l.length ≤ 900) (x : Int) : pipe_find N l x = some (oi (fst (fun j => (l.getD j z_Pipe).To == x) l.length)) := by
  unfold pipe_find
  rw [search (fun j => (l.getD j z_Pipe).To == x) (fun j => (j : Int)) () l.length (by omega) (fun i hi => ?_) (by simp)]
  · cases fst (fun j => (l.getD j z_Pipe).To == x) l.length <;> rfl
  · simp only [dlt hi, dge, Bool.and_self, cond_true, Int.toNat_natCast, wrapN (show i < 9223372036854775807 by omega)]
theorem iright_eq (l : List Pipe) : pipe_Right N l = some (rightI l) := by
  unfold pipe_Right rightI
  cases hq : decide ((l.length : Int) > 64) with
  | true => rfl
  | false =>
    have hl : l.length ≤ 64 := by simp at hq; omega
    rw [cond_false, search (fun i => errI l i != 0) (fun i => errI l i) () l.length (by omega) (fun i hi => ?_) (by simp)]
    · cases fst (fun i => errI l i != 0) l.length <;> rfl
    · have htl : (l.take i).length = i := by simp; omega
      have hle : decide ((i : Int) ≤ (l.length : Int)) = true := by rw [decide_eq_true_eq]; omega
      have hfind : pipe_find N (l.take i) (l.getD i z_Pipe).From = some (oi (fst (fun j => (l.getD j z_Pipe).To == (l.getD i z_Pipe).From) i)) := by
        rw [find_eq hN _ (by omega), htl, fst_congr fun j hj => by rw [getD_take l i j z_Pipe hj]]
      simp only [dlt hi, dge, Bool.and_self, cond_true, Int.toNat_natCast, cond_or, Option.bind_some, wrapN (show i < 9223372036854775807 by omega), hle, hfind, htl]
      have hr : rangeI (l.getD i z_Pipe) = ((decide ((l.getD i z_Pipe).ID < 1) || (decide ((l.getD i z_Pipe).ID > 9999) || (decide ((l.getD i z_Pipe).To < 1) || decide ((l.getD i z_Pipe).To > 9999)))) || (decide ((l.getD i z_Pipe).Loss < 0) || (decide ((l.getD i z_Pipe).Loss > 100000) || (decide ((l.getD i z_Pipe).Rise < -100000) || decide ((l.getD i z_Pipe).Rise > 100000))))) := by
        unfold rangeI
        simp only [Bool.or_assoc]
      unfold errI
      rw [hr]
      cases (decide ((l.getD i z_Pipe).ID < 1) || (decide ((l.getD i z_Pipe).ID > 9999) || (decide ((l.getD i z_Pipe).To < 1) || decide ((l.getD i z_Pipe).To > 9999)))) with
      | true => rfl
      | false =>
        cases (decide ((l.getD i z_Pipe).Loss < 0) || (decide ((l.getD i z_Pipe).Loss > 100000) || (decide ((l.getD i z_Pipe).Rise < -100000) || decide ((l.getD i z_Pipe).Rise > 100000)))) with
        | true => rfl
        | false =>
          simp only [cond_false, Bool.or_self]
          rw [search (twinI l i) (fun j => (j : Int)) () i (by omega) (fun j hj => ?_) (by simp)]
          · cases fst (twinI l i) i with
            | some j =>
              have : decide ((j : Int) ≥ 0) = true := by simp
              simp only [Option.bind_some, sres, Sum.elim_inr, this, cond_true, Option.isSome_some]
              rfl
            | none =>
              simp only [Option.bind_some, sres, Sum.elim_inl, Option.isSome_none, cond_false]
              unfold leadI
              cases h0 : (l.getD i z_Pipe).From == 0 with
              | true =>
                have : ((l.getD i z_Pipe).From != 0) = false := by rw [bne, h0]; rfl
                rw [this]; rfl
              | false =>
                have : ((l.getD i z_Pipe).From != 0) = true := by rw [bne, h0]; rfl
                rw [this]
                cases fst (fun j => (l.getD j z_Pipe).To == (l.getD i z_Pipe).From) i with
                | none => rfl
                | some k =>
                  have : decide ((k : Int) < 0) = false := by rw [decide_eq_false_iff_not]; omega
                  simp only [cond_true, Option.bind_some, oi, this, cond_false, Option.isSome_some, Bool.or_true]
                  rfl
          · simp only [dlt hj, dge, Bool.and_self, cond_true, Int.toNat_natCast, getD_take l i j z_Pipe hj, cond_or, Option.bind_some, wrapN (show j < 9223372036854775807 by omega)]
            rfl
theorem riright_eq (l : List Pipe) : r40_Right N l = some (rightI l) := by
  unfold r40_Right rightI
  cases hq : decide ((l.length : Int) > 64) with
  | true => rfl
  | false =>
    have hl : l.length ≤ 64 := by simp at hq; omega
    rw [cond_false, search (fun i => errI l i != 0) (fun i => errI l i) () l.length (by omega) (fun i hi => ?_) (by simp)]
    · cases fst (fun i => errI l i != 0) l.length <;> rfl
    · simp only [dlt hi, dge, Bool.and_self, cond_true, Int.toNat_natCast, cond_or, Option.bind_some, wrapN (show i < 9223372036854775807 by omega)]
      have hr : (decide ((l.getD i z_Pipe).ID < 1) || (decide ((l.getD i z_Pipe).ID > 9999) || (decide ((l.getD i z_Pipe).To < 1) || (decide ((l.getD i z_Pipe).To > 9999) || (decide ((l.getD i z_Pipe).Loss < 0) || (decide ((l.getD i z_Pipe).Loss > 100000) || (decide ((l.getD i z_Pipe).Rise < -100000) || decide ((l.getD i z_Pipe).Rise > 100000)))))))) = rangeI (l.getD i z_Pipe) := rfl
      rw [hr]
      unfold errI
      cases rangeI (l.getD i z_Pipe) with
      | true => rfl
      | false =>
        simp only [cond_false]
        refine (bindS (fun j => (((l.getD i z_Pipe).From == 0) || leadI l j (l.getD i z_Pipe).From, (j : Int))) (by simp [leadI, fst]) (twinI l i) (fun _ => (7 : Int)) (((l.getD i z_Pipe).From == 0) || leadI l i (l.getD i z_Pipe).From) i (show i < N by omega) (fun j hj _ => ?_) (fun _ => ?_)).trans ?_
        · have hs : leadI l (j + 1) (l.getD i z_Pipe).From = (leadI l j (l.getD i z_Pipe).From || ((l.getD j z_Pipe).To == (l.getD i z_Pipe).From)) := fst_succ _ _
          simp only [dlt hj, dge, dlt (show j < l.length by omega), Bool.and_self, cond_true, Int.toNat_natCast, cond_or, Option.bind_some, wrapC (show j < 9223372036854775807 by omega), hs, Bool.or_assoc]
          rfl
        · simp only [dnlt, cond_false]
        · cases fst (twinI l i) i with
          | some j => rfl
          | none =>
            simp only [sres, Sum.elim_inl, Option.isSome_none, cond_false]
            cases ((l.getD i z_Pipe).From == 0) || leadI l i (l.getD i z_Pipe).From <;> rfl
end
structure PipesOk (l : List Pipe) : Prop where
  to : ∀ i, i < l.length → 1 ≤ (l.getD i z_Pipe).To
  one : ∀ i j, j < i → i < l.length → (l.getD j z_Pipe).To ≠ (l.getD i z_Pipe).To
  up : ∀ i, i < l.length → (l.getD i z_Pipe).From = 0 ∨ ∃ j, j < i ∧ (l.getD j z_Pipe).To = (l.getD i z_Pipe).From
theorem pipes_ok {l : List Pipe} (h : rightI l = 0) : PipesOk l := by
  unfold rightI at h
  cases hq : decide ((l.length : Int) > 64) with
  | true => rw [hq] at h; cases h
  | false =>
    rw [hq, cond_false] at h
    have he : ∀ i, i < l.length → errI l i = 0 := fun i hi => by
      cases hf : fst (fun i => errI l i != 0) l.length with
      | none => simpa using fst_none.1 hf i hi
      | some k =>
        rw [hf] at h
        have := (fst_some.1 hf).2.1
        simp only at h this
        rw [h] at this
        cases this
    have hx : ∀ i, i < l.length → rangeI (l.getD i z_Pipe) = false ∧ (fst (twinI l i) i) = none ∧ (((l.getD i z_Pipe).From == 0) || leadI l i (l.getD i z_Pipe).From) = true := fun i hi => by
      have := he i hi
      unfold errI at this
      cases h1 : rangeI (l.getD i z_Pipe) with
      | true => rw [h1] at this; cases this
      | false =>
        cases h2 : fst (twinI l i) i with
        | some k => rw [h1, h2] at this; cases this
        | none =>
          cases h3 : (((l.getD i z_Pipe).From == 0) || leadI l i (l.getD i z_Pipe).From) with
          | false => rw [h1, h2, h3] at this; cases this
          | true => exact ⟨rfl, rfl, rfl⟩
    refine ⟨fun i hi => ?_, fun i j hj hi he => ?_, fun i hi => ?_⟩
    · have := (hx i hi).1
      unfold rangeI at this
      simp only [Bool.or_eq_false_iff, decide_eq_false_iff_not] at this
      omega
    · have := fst_none.1 (hx i hi).2.1 j hj
      unfold twinI at this
      rw [he] at this
      simp at this
    · have := (hx i hi).2.2
      rw [Bool.or_eq_true, beq_iff_eq] at this
      rcases this with h0 | h0
      · exact .inl h0
      · unfold leadI at h0
        cases hf : fst (fun j => (l.getD j z_Pipe).To == (l.getD i z_Pipe).From) i with
        | none => rw [hf] at h0; cases h0
        | some j =>
          obtain ⟨a, b, _⟩ := fst_some.1 hf
          exact .inr ⟨j, a, by simpa using b⟩
section
variable {N : Nat} (hN : 1000 < N)
include hN
omit hN in
theorem rpack_right (p : Pack) : r13_Right N p = some (decide (0 ≤ p.Natural) && decide (p.Natural ≤ 20000) && (decide (0 ≤ p.Machine) && decide (p.Machine ≤ 20000) && (decide (50 ≤ p.Density) && decide (p.Density ≤ 900)))) := by
  unfold r13_Right r13_in
  simp only [cond_and, Option.bind_some]
theorem rpacks_eq {l : List RunPack} (hl : l.length ≤ 900) : r44_Packs N l = some (match fst (fun i => errPk l i != 0) l.length with | some i => errPk l i | none => 0) := by
  unfold r44_Packs
  rw [search (fun i => errPk l i != 0) (fun i => errPk l i) () l.length (by omega) (fun i hi => ?_) (by simp)]
  · cases fst (fun i => errPk l i != 0) l.length <;> rfl
  · simp only [dlt hi, dge, Bool.and_self, cond_true, Int.toNat_natCast, rpack_right, Option.bind_some, cond_or, wrapN (show i < 9223372036854775807 by omega)]
    have hb : (decide ((l.getD i z_RunPack).Run < 1) || (decide ((l.getD i z_RunPack).Run > 9999) || (decide ((l.getD i z_RunPack).Area < 1) || (decide ((l.getD i z_RunPack).Area > 10000000) || !(decide (0 ≤ (l.getD i z_RunPack).Pack.Natural) && decide ((l.getD i z_RunPack).Pack.Natural ≤ 20000) && (decide (0 ≤ (l.getD i z_RunPack).Pack.Machine) && decide ((l.getD i z_RunPack).Pack.Machine ≤ 20000) && (decide (50 ≤ (l.getD i z_RunPack).Pack.Density) && decide ((l.getD i z_RunPack).Pack.Density ≤ 900)))))))) = badPk (l.getD i z_RunPack) := rfl
    rw [hb]
    unfold errPk
    cases badPk (l.getD i z_RunPack) with
    | true => rfl
    | false =>
      cases i with
      | zero => rfl
      | succ k =>
        have g1 : decide (((k + 1 : Nat) : Int) > 0) = true := by simp
        have g2 : decide (0 < k + 1) = true := by simp
        simp only [g1, g2, cond_true, cond_false, wrapS (show k < 9223372036854775807 by omega), dge, dlt (show k < l.length by omega), Bool.and_self, Int.toNat_natCast, Option.bind_some, Bool.true_and, Nat.add_sub_cancel]
        cases decide ((l.getD (k + 1) z_RunPack).Run ≤ (l.getD k z_RunPack).Run) <;> rfl
theorem rpack_eq {l : List RunPack} (hl : l.length ≤ 900) (u : Int) : r44_pack N l u = some (hasPack l u) := by
  unfold r44_pack hasPack
  rw [search (fun j => (l.getD j z_RunPack).Run == u) (fun _ => true) () l.length (by omega) (fun i hi => ?_) (by simp)]
  · cases fst (fun j => (l.getD j z_RunPack).Run == u) l.length <;> rfl
  · simp only [dlt hi, dge, Bool.and_self, cond_true, Int.toNat_natCast, wrapN (show i < 9223372036854775807 by omega)]
theorem rnode_eq {l : List Pipe} (hl : l.length ≤ 900) (u : Int) : r44_node N l u = some (hasNode l u) := by
  unfold r44_node hasNode
  rw [search (fun j => (l.getD j z_Pipe).To == u) (fun _ => true) () l.length (by omega) (fun i hi => ?_) (by simp)]
  · cases fst (fun j => (l.getD j z_Pipe).To == u) l.length <;> rfl
  · simp only [dlt hi, dge, Bool.and_self, cond_true, Int.toNat_natCast, wrapN (show i < 9223372036854775807 by omega)]
omit hN in
theorem within_eq (x m : Int) : r44_within N x m = some (decide (x ≥ 0) && decide (x ≤ m)) := by
  unfold r44_within
  simp only [cond_and, Option.bind_some]
theorem rright_eq {s : SnowSystem} (h : Small s) : r44_Right N s = some (rightSS (rightU s.Pumps) (rightI s.Pipes) s) := by
  have h1 := h.guns
  have h2 := h.kinds
  have h3 := h.pipes
  have h4 := h.packs
  unfold r44_Right r44_parts rightSS
  rw [Pn.rright_eq hN, ruright_eq hN, riright_eq hN, Gn.rright_eq hN]
  simp only [Option.bind_some]
  cases ha : Pn.rightS s.Ponds != 0 with
  | true => simp only [cond_true, Option.bind_some, ha]
  | false =>
  cases hb : rightU s.Pumps != 0 with
  | true => simp only [cond_true, cond_false, Option.bind_some, hb]
  | false =>
  cases hc : rightI s.Pipes != 0 with
  | true => simp only [cond_true, cond_false, Option.bind_some, hc]
  | false =>
  simp only [cond_false, Option.bind_some]
  cases hd : Gn.rightS s.Kinds s.Guns != 0 with
  | true => simp only [cond_true]
  | false =>
  have c1 : decide ((s.Packs.length : Int) > 64) = false := by rw [decide_eq_false_iff_not]; omega
  simp only [cond_false, c1, rpacks_eq hN (show s.Packs.length ≤ 900 by omega), Option.bind_some]
  unfold rightT
  cases hf : fst (fun i => errPk s.Packs i != 0) s.Packs.length with
  | some i =>
    have := (fst_some.1 hf).2.1
    simp only [this, cond_true]
  | none =>
    simp only [bne_self_eq_false, cond_false]
    rw [search (errLk s) (fun _ => (8 : Int)) () s.Guns.length (by omega) (fun i hi => ?_) (by simp)]
    · cases fst (errLk s) s.Guns.length with
      | some i => rfl
      | none =>
        simp only [Option.bind_some, sres, Sum.elim_inl, within_eq, cond_or, Option.isSome_none, cond_false]
        have : (!(decide (s.Pressure ≥ 0) && decide (s.Pressure ≤ 10000000)) || (!(decide (s.Limit ≥ 0) && decide (s.Limit ≤ 1000000000)) || (!(decide (s.Time ≥ 0) && decide (s.Time ≤ 20000000)) || (!(decide (s.Water ≥ 0) && decide (s.Water ≤ 1125899906842624)) || (!(decide (s.Lost ≥ 0) && decide (s.Lost ≤ 1125899906842624)) || (!(decide (s.Energy ≥ 0) && decide (s.Energy ≤ 1125899906842624)) || !(decide (s.Inflow ≥ 0) && decide (s.Inflow ≤ 1125899906842624)))))))) = !restB s := by
          unfold restB cntB
          simp only [Bool.not_and, Bool.or_assoc]
        rw [this]
        cases restB s <;> rfl
    · simp only [dlt hi, dge, Bool.and_self, cond_true, Int.toNat_natCast, rpack_eq hN (show s.Packs.length ≤ 900 by omega), rnode_eq hN (show s.Pipes.length ≤ 900 by omega), Option.bind_some, cond_or, wrapN (show i < 9223372036854775807 by omega)]
      unfold errLk
      rw [Bool.not_and]
theorem right_same {s : SnowSystem} (h : Small s) : snowmaking_Right N s = r44_Right N s := by
  rw [rright_eq hN h, right_eq hN h (uright_eq hN _) (iright_eq hN _)]
theorem lright_spec (s : SnowSystem) : W (fun b => b = true → Small s ∧ RightOk N s ∧ Link s) (l44_right N s) := by
  unfold l44_right
  obtain ⟨b, hb, hS⟩ := small_tot hN s
  rw [hb]
  cases b with
  | false => exact W_some (fun h => by cases h)
  | true =>
    have h := hS rfl
    simp only [cond_true, Option.bind_some]
    rw [← right_same hN h]
    obtain ⟨r, hr, hR⟩ := right_spec hN h
    rw [hr]
    refine W_some fun h0 => ?_
    have h0 : r = 0 := by simpa using h0
    subst h0
    obtain ⟨a, b⟩ := right_fwd hN h hr
    exact ⟨h, a, b⟩
end
end Go.Proofs.YtkhkblihdabnoaaGreat

