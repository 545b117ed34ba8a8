/- Snowmaking: what a step computes, exactly. No condition. -/
import Derived.Test.YtkhkblihdabnoaaSno6
import Derived.Test.YtkhkblihdabnoaaSno7
import Derived.Test.YtkhkblihdabnoaaSno9
namespace Go.Proofs.Ytkhkblihdabnoaa
open Go.Cm Go.Proofs
def lit (s : SnowSystem) (x sec : Int) (g : Gun) : Int := bif Gn.onB g then Gn.outS (Gn.kindOf s.Kinds g.Kind) x * sec / 60 else 0
def litR (s : SnowSystem) (x sec u : Int) (g : Gun) : Int := bif g.Run == u then lit s x sec g else 0
def sumL (s : SnowSystem) (x sec : Int) : Int := (s.Guns.map (lit s x sec)).sum
def runL (s : SnowSystem) (x sec u : Int) : Int := (s.Guns.map (litR s x sec u)).sum
theorem out_lit {N : Nat} {s : SnowSystem} (hr : RightOk N s) {x sec : Int} (h1 : 1 ≤ sec) (h2 : sec ≤ 3600) (id : Int) :
    IntKind.i64.wrap ((IntKind.i64.wrap (Gn.outS (Gn.kindOf s.Kinds id) x * sec)).tdiv 60) = Gn.outS (Gn.kindOf s.Kinds id) x * sec / 60 ∧ 0 ≤ Gn.outS (Gn.kindOf s.Kinds id) x * sec / 60 ∧ Gn.outS (Gn.kindOf s.Kinds id) x * sec / 60 ≤ 600000 := by
  have ho := Gn.out_range (Gn.right_zero hr.guns).2.2.1 id x
  have k1 : 0 ≤ Gn.outS (Gn.kindOf s.Kinds id) x * sec := Int.mul_nonneg ho.1 (by omega)
  have k2 : Gn.outS (Gn.kindOf s.Kinds id) x * sec ≤ 10000 * 3600 := Int.mul_le_mul ho.2 h2 (by omega) (by omega)
  refine ⟨?_, by omega, by omega⟩
  rw [wrap64 (z := Gn.outS (Gn.kindOf s.Kinds id) x * sec) (by omega) (by omega), Int.tdiv_eq_ediv_of_nonneg k1, wrap64 (by omega) (by omega)]
theorem lit_bound {N : Nat} {s : SnowSystem} (hr : RightOk N s) {x sec : Int} (h1 : 1 ≤ sec) (h2 : sec ≤ 3600) (g : Gun) : 0 ≤ lit s x sec g ∧ lit s x sec g ≤ 600000 := by
  unfold lit
  cases Gn.onB g
  · exact ⟨Int.le_refl 0, show (0 : Int) ≤ 600000 by decide⟩
  · exact (out_lit hr h1 h2 g.Kind).2
theorem litR_bound {N : Nat} {s : SnowSystem} (hr : RightOk N s) {x sec : Int} (h1 : 1 ≤ sec) (h2 : sec ≤ 3600) (u : Int) (g : Gun) : 0 ≤ litR s x sec u g ∧ litR s x sec u g ≤ 600000 := by
  unfold litR
  cases g.Run == u
  · exact ⟨Int.le_refl 0, show (0 : Int) ≤ 600000 by decide⟩
  · exact lit_bound hr h1 h2 g
theorem sumL_bound {N : Nat} {s : SnowSystem} (h : Small s) (hr : RightOk N s) {x sec : Int} (h1 : 1 ≤ sec) (h2 : sec ≤ 3600) : 0 ≤ sumL s x sec ∧ sumL s x sec ≤ 18000000 := by
  have := Pn.sum_bound (lit s x sec) 600000 s.Guns fun g _ => lit_bound hr h1 h2 g
  have := h.guns
  unfold sumL
  omega
theorem runL_bound {N : Nat} {s : SnowSystem} (h : Small s) (hr : RightOk N s) {x sec : Int} (h1 : 1 ≤ sec) (h2 : sec ≤ 3600) (u : Int) : 0 ≤ runL s x sec u ∧ runL s x sec u ≤ 18000000 := by
  have := Pn.sum_bound (litR s x sec u) 600000 s.Guns fun g _ => litR_bound hr h1 h2 u g
  have := h.guns
  unfold runL
  omega
/-! snow -/
def densP (p : Pack) (mm : Int) : Int := bif decide (mm > 0) then (p.Natural + p.Machine + mm) * p.Density * 450 / ((p.Natural + p.Machine) * 450 + mm * p.Density) else p.Density
def makeP (p : Pack) (mm : Int) : Pack := Pack.mk p.Natural (p.Machine + mm) (densP p mm)
def PkOk (p : Pack) : Prop := 0 ≤ p.Natural ∧ p.Natural ≤ 20000 ∧ 0 ≤ p.Machine ∧ p.Machine ≤ 20000 ∧ 50 ≤ p.Density ∧ p.Density ≤ 900
theorem dens_facts {p : Pack} (h : PkOk p) {mm : Int} (h0 : 0 < mm) (h1 : mm ≤ 1000) :
    (0 ≤ (p.Natural + p.Machine + mm) * p.Density ∧ (p.Natural + p.Machine + mm) * p.Density ≤ 36900000) ∧ (0 < mm * p.Density ∧ mm * p.Density ≤ 900000) ∧ 50 ≤ (p.Natural + p.Machine + mm) * p.Density * 450 / ((p.Natural + p.Machine) * 450 + mm * p.Density) ∧ (p.Natural + p.Machine + mm) * p.Density * 450 / ((p.Natural + p.Machine) * 450 + mm * p.Density) ≤ 900 := by
  unfold PkOk at h
  obtain ⟨w, hw⟩ : ∃ w, p.Natural + p.Machine = w := ⟨_, rfl⟩
  rw [hw]
  have a1 : w * 50 ≤ w * p.Density := Int.mul_le_mul_of_nonneg_left (by omega) (by omega)
  have a2 : w * p.Density ≤ w * 900 := Int.mul_le_mul_of_nonneg_left (by omega) (by omega)
  have b1 : mm * 50 ≤ mm * p.Density := Int.mul_le_mul_of_nonneg_left (by omega) (by omega)
  have b2 : mm * p.Density ≤ mm * 900 := Int.mul_le_mul_of_nonneg_left (by omega) (by omega)
  rw [Int.add_mul]
  obtain ⟨a, ha⟩ : ∃ a, w * p.Density = a := ⟨_, rfl⟩
  obtain ⟨b, hb⟩ : ∃ b, mm * p.Density = b := ⟨_, rfl⟩
  rw [ha] at a1 a2 ⊢
  rw [hb] at b1 b2 ⊢
  refine ⟨by omega, by omega, ?_, ?_⟩
  · rw [Int.le_ediv_iff_mul_le (by omega)]; omega
  · exact Int.ediv_le_of_le_mul (by omega) (by omega)
theorem make_ok {p : Pack} (h : PkOk p) {mm : Int} (h0 : 0 ≤ mm) (h1 : mm ≤ 1000) (h2 : p.Machine + mm ≤ 20000) : PkOk (makeP p mm) := by
  have hd : 50 ≤ densP p mm ∧ densP p mm ≤ 900 := by
    unfold densP
    by_cases hm : mm > 0
    · simp only [hm, decide_true, cond_true]
      exact (dens_facts h hm h1).2.2
    · simp only [hm, decide_false, cond_false]
      unfold PkOk at h
      omega
  unfold PkOk at h ⊢
  unfold makeP
  simp only
  omega
theorem make_eq {N : Nat} {p : Pack} (h : PkOk p) {mm : Int} (h0 : 0 ≤ mm) (h1 : mm ≤ 1000) : snowpack_Make N p mm = some (bif decide (p.Machine + mm > 20000) then (z_Pack, 12) else (makeP p mm, 0)) := by
  have h' := h
  unfold PkOk at h'
  unfold snowpack_Make snowpack_within
  rw [packRight_eq]
  have e1 : (decide (0 ≤ p.Natural) && decide (p.Natural ≤ 20000) && (decide (0 ≤ p.Machine) && decide (p.Machine ≤ 20000) && (decide (50 ≤ p.Density) && decide (p.Density ≤ 900)))) = true := by
    simp only [Bool.and_eq_true, decide_eq_true_eq]; omega
  have e6 : decide (0 ≤ mm) = true := by rw [decide_eq_true_eq]; omega
  have e7 : decide (mm ≤ 1000) = true := by rw [decide_eq_true_eq]; omega
  simp only [e1, e6, e7, Option.bind_some, Bool.not_true, cond_false, cond_true, wrap64 (z := p.Machine + mm) (by omega) (by omega)]
  cases hq : decide (p.Machine + mm > 20000) with
  | true => rfl
  | false =>
    rw [decide_eq_false_iff_not] at hq
    unfold snowpack_add snowpack_water makeP densP
    simp only [cond_false, Option.bind_some, Int.zero_add, wrap64 (z := mm) (by omega) (by omega), wrap64 (z := p.Natural + p.Machine) (by omega) (by omega)]
    by_cases hm : mm > 0
    · obtain ⟨d1, d2, d3⟩ := dens_facts h hm h1
      have n0 : ((p.Natural + p.Machine) * 450 + mm * p.Density != 0) = true := by rw [bne_iff_ne]; omega
      simp only [hm, decide_true, cond_true, wrap64 (z := (p.Natural + p.Machine) * 450) (by omega) (by omega), wrap64 (z := mm * p.Density) (by omega) (by omega), wrap64 (z := (p.Natural + p.Machine) * 450 + mm * p.Density) (by omega) (by omega), n0,
        wrap64 (z := p.Natural + p.Machine + mm) (by omega) (by omega), wrap64 (z := (p.Natural + p.Machine + mm) * p.Density) (by omega) (by omega), wrap64 (z := (p.Natural + p.Machine + mm) * p.Density * 450) (by omega) (by omega), Option.bind_some,
        Int.tdiv_eq_ediv_of_nonneg (show 0 ≤ (p.Natural + p.Machine + mm) * p.Density * 450 by omega), Int.add_zero, wrap64 (z := p.Natural) (by omega) (by omega), wrap64 (z := p.Machine + mm) (by omega) (by omega), wrap64 (z := (p.Natural + p.Machine + mm) * p.Density * 450 / ((p.Natural + p.Machine) * 450 + mm * p.Density)) (by omega) (by omega)]
    · simp only [hm, decide_false, cond_false, Option.bind_some, Int.add_zero, wrap64 (z := p.Natural) (by omega) (by omega), wrap64 (z := p.Machine + mm) (by omega) (by omega)]
def mmP (s : SnowSystem) (x sec : Int) (p : RunPack) : Int := min 1000 (runL s x sec p.Run / p.Area)
def newP (s : SnowSystem) (x sec : Int) (p : RunPack) : RunPack := RunPack.mk p.Run p.Area (makeP p.Pack (mmP s x sec p))
def lostP (s : SnowSystem) (x sec : Int) (p : RunPack) : Int := runL s x sec p.Run - mmP s x sec p * p.Area
def overP (s : SnowSystem) (x sec : Int) (i : Nat) : Bool := decide ((s.Packs.getD i z_RunPack).Pack.Machine + mmP s x sec (s.Packs.getD i z_RunPack) > 20000)
def takeR (N : Nat) (l : List Pond) (v : Int) : List Pond := ((pond_Take N l v).getD ([], 0)).1
def cntB (w l e f : Int) : Bool := decide (w ≥ 0) && decide (w ≤ 1125899906842624) && (decide (l ≥ 0) && decide (l ≤ 1125899906842624) && (decide (e ≥ 0) && decide (e ≤ 1125899906842624) && (decide (f ≥ 0) && decide (f ≤ 1125899906842624))))
def stepT (N : Nat) (s : SnowSystem) (x sec pw : Int) : SnowSystem :=
  SnowSystem.mk ((takeR N s.Ponds (sumL s x sec)).map (Pn.fillP sec)) s.Pumps s.Pipes s.Kinds s.Guns (s.Packs.map (newP s x sec)) s.Pressure s.Limit (s.Time + sec) (s.Water + sumL s x sec) (s.Lost + (s.Packs.map (lostP s x sec)).sum) (s.Energy + pw * sec) (s.Inflow + Pn.sumW (takeR N s.Ponds (sumL s x sec)) sec)
def stepS (N : Nat) (s : SnowSystem) (x sec w pw : Int) : SnowSystem × Int :=
  bif decide (sec < 1) || (decide (sec > 3600) || (decide (s.Time + sec > 20000000) || (decide (x < -1000) || decide (x > 1000)))) then (z_SnowSystem, 2)
  else bif w != 0 then (z_SnowSystem, w)
  else bif decide (sumL s x sec > Pn.spaI s.Ponds) then (z_SnowSystem, 8)
  else bif (fst (overP s x sec) s.Packs.length).isSome then (z_SnowSystem, 12)
  else bif cntB (stepT N s x sec pw).Water (stepT N s x sec pw).Lost (stepT N s x sec pw).Energy (stepT N s x sec pw).Inflow then (stepT N s x sec pw, 0) else (z_SnowSystem, 12)
theorem mm_bound {N : Nat} {s : SnowSystem} (h : Small s) (hr : RightOk N s) {x sec : Int} (h1 : 1 ≤ sec) (h2 : sec ≤ 3600) {p : RunPack} (hp : PackOk p) : 0 ≤ mmP s x sec p ∧ mmP s x sec p ≤ 1000 ∧ 0 ≤ mmP s x sec p * p.Area ∧ mmP s x sec p * p.Area ≤ runL s x sec p.Run ∧ 0 ≤ runL s x sec p.Run / p.Area ∧ runL s x sec p.Run / p.Area ≤ 18000000 := by
  unfold PackOk at hp
  have hb := runL_bound h hr h1 h2 p.Run (x := x)
  have d0 : 0 ≤ runL s x sec p.Run / p.Area := Int.ediv_nonneg hb.1 (by omega)
  have d1 : runL s x sec p.Run / p.Area * p.Area ≤ runL s x sec p.Run := Int.ediv_mul_le _ (by omega)
  have d2 : runL s x sec p.Run / p.Area ≤ runL s x sec p.Run := Int.ediv_le_self _ hb.1
  have hm : mmP s x sec p ≤ runL s x sec p.Run / p.Area := by unfold mmP; omega
  have hm0 : 0 ≤ mmP s x sec p := by unfold mmP; omega
  have hm1 : mmP s x sec p ≤ 1000 := by unfold mmP; omega
  have d3 : mmP s x sec p * p.Area ≤ runL s x sec p.Run / p.Area * p.Area := Int.mul_le_mul_of_nonneg_right hm (by omega)
  have d4 : 0 ≤ mmP s x sec p * p.Area := Int.mul_nonneg hm0 (by omega)
  omega
theorem lost_bound {N : Nat} {s : SnowSystem} (h : Small s) (hr : RightOk N s) {x sec : Int} (h1 : 1 ≤ sec) (h2 : sec ≤ 3600) {p : RunPack} (hp : PackOk p) : 0 ≤ lostP s x sec p ∧ lostP s x sec p ≤ 18000000 := by
  have a := mm_bound h hr h1 h2 hp (x := x)
  have hb := runL_bound h hr h1 h2 p.Run (x := x)
  unfold lostP
  omega
theorem pack_mem {N : Nat} {s : SnowSystem} (hr : RightOk N s) {p : RunPack} (hp : p ∈ s.Packs) : PackOk p := by
  obtain ⟨i, hi, rfl⟩ := mem_getD z_RunPack hp
  exact hr.packs i hi
section
variable {N : Nat} (hN : 1000 < N)
include hN
theorem take_spec {l : List Pond} (hl : l.length ≤ 8) (ha : ∀ p, p ∈ l → Pn.PondOk p) {v : Int} (h0 : 0 ≤ v) (h1 : v ≤ Pn.spaI l) :
    pond_Take N l v = some (takeR N l v, 0) ∧ Pn.Rel l (takeR N l v) ∧ Pn.totI (takeR N l v) = Pn.totI l - v := by
  by_cases hv : v = 0
  · subst hv
    have e := take0 hN hl ha
    unfold takeR
    rw [e]
    exact ⟨rfl, Pn.rel_refl ha, by simp⟩
  · obtain ⟨o, hS, e⟩ := Pn.take_some hN hl ha (x := v) (by omega) h1
    have hpf := Pn.parts_facts (Pn.good_of hl ha (x := v) (by omega) h1) hS
    have hlen : (Pn.partsOf v (Pn.wsOf l) o).length = l.length := by rw [hpf.1]; simp [Pn.wsOf]
    have hw : ∀ i, i < l.length → (Pn.wsOf l).getD i 0 = (l.getD i z_Pond).Volume - (l.getD i z_Pond).Least := fun i hi => getD_map (fun p : Pond => p.Volume - p.Least) l i z_Pond 0 hi
    have hb : ∀ i, i < l.length → 0 ≤ (Pn.partsOf v (Pn.wsOf l) o).getD i 0 ∧ (Pn.partsOf v (Pn.wsOf l) o).getD i 0 ≤ (l.getD i z_Pond).Volume - (l.getD i z_Pond).Least := fun i hi => by
      have := hpf.2.2 i (by simp [Pn.wsOf]; exact hi)
      rw [hw i hi] at this
      exact ⟨this.2.1, this.2.2⟩
    obtain ⟨r1, r2⟩ := Pn.take_rel ha (Pn.rel_refl ha) hlen hb
    unfold takeR
    rw [e]
    refine ⟨rfl, r1, ?_⟩
    refine r2.trans ?_
    rw [hpf.2.1]
end
end Go.Proofs.Ytkhkblihdabnoaa
