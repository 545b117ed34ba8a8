/- Snowmaking: a step is what stepS says. No condition. -/
import Derived.Test.YtkhkblihdabnoaaSnoa
namespace Go.Proofs.Ytkhkblihdabnoaa
open Go.Cm Go.Proofs
theorem W_of_eq {α : Type} {Q : α → Prop} {a b : Option α} (h : a = b) (hw : W Q b) : W Q a := h ▸ hw
section
variable {N : Nat} (hN : 1000 < N)
include hN
theorem best_nn {l : List Pump} (hl : l.length ≤ 8) (hp : ∀ i, i < l.length → PumpOk (l.getD i z_Pump)) (f : Int) : W (fun r : List Int × Int × Int => 0 ≤ r.2.1 ∧ r.2.1 ≤ 800000000) (pump_Best N l f) := by
  have hnn : ∀ {c : List Int}, c.length ≤ 900 → W (fun r : Int => 0 ≤ r ∧ r ≤ 800000000) (pump_Power N l c) := fun {c} hc => by
    unfold pump_Power
    refine W_bind (Q' := fun r : Int => 0 ≤ r ∧ r ≤ 800000000) ?_ fun r hr => W_some hr
    refine W_loop (fun i s => s.2 = (i : Int) ∧ 0 ≤ s.1 ∧ s.1 ≤ 100000000 * i) l.length ⟨rfl, by simp, by simp⟩ (fun i s hi hI => ?_) (fun s hI => ?_) (by omega)
    · obtain ⟨a, k⟩ := s
      obtain ⟨hk, ha, hb⟩ := hI
      simp only at hk ha hb
      subst hk
      have hpi := hp i hi
      unfold PumpOk at hpi
      simp only [dlt hi, dge, Bool.and_self, cond_true, Int.toNat_natCast, wrapC (show i < 9223372036854775807 by omega)]
      refine W_bind (contains_tot hN hc _) fun r _ => ?_
      rw [wrap64 (z := a + (l.getD i z_Pump).Power) (by omega) (by omega)]
      exact W_bind (Q' := fun r : Int => 0 ≤ r ∧ r ≤ 100000000 * ((i : Int) + 1)) (W_cond (fun _ => W_some (by omega)) (fun _ => W_some (by omega))) fun r hr => W_some ⟨rfl, hr.1, by have := hr.2; simp only; omega⟩
    · obtain ⟨a, k⟩ := s
      obtain ⟨hk, ha, hb⟩ := hI
      simp only at hk ha hb
      subst hk
      simp only [dnlt, cond_false]
      exact W_some ⟨ha, by omega⟩
  have hz : (0 : Int) ≤ 0 ∧ (0 : Int) ≤ 800000000 := by omega
  unfold pump_Best
  refine W_cond (fun _ => W_some hz) (fun _ => W_cond (fun _ => W_some hz) (fun h => ?_))
  rw [shl_small hl]
  have hp2 : 2 ^ l.length ≤ 2 ^ 8 := Nat.pow_le_pow_right (by decide) hl
  have hp' : 2 ^ l.length - 1 < 256 := by have : 2 ^ 8 = 256 := by decide
                                          have : 0 < 2 ^ l.length := Nat.pow_pos (by decide)
                                          omega
  generalize 2 ^ l.length - 1 = a at hp'
  refine W_bind (members_tot hN hp') fun r2 h2 => W_bind (flow_tot hN (by omega) (by omega)) fun r3 _ => W_cond (fun _ => W_some hz) (fun _ => W_bind (hnn (by omega)) fun r4 h4 => ?_)
  refine W_bind (Q' := fun r : List Int × Int => 0 ≤ r.2 ∧ r.2 ≤ 800000000) ?_ fun r hr => W_some hr
  refine W_loop (fun i s => s.2.2 = (i : Int) ∧ s.1.length ≤ 8 ∧ 0 ≤ s.2.1 ∧ s.2.1 ≤ 800000000) a ⟨rfl, h2, h4⟩ (fun i s hi hI => ?_) (fun s hI => ?_) (by omega)
  · obtain ⟨c, lp, k⟩ := s
    obtain ⟨hk, hc, h5⟩ := hI
    simp only at hk hc h5
    subst hk
    simp only [dlt hi, cond_true, wrapC (show i < 9223372036854775807 by omega)]
    refine W_bind (Q' := fun r : List Int × Int => r.1.length ≤ 8 ∧ 0 ≤ r.2 ∧ r.2 ≤ 800000000) ?_ fun r hr => W_some ⟨rfl, hr⟩
    refine W_bind (members_tot hN (show i < 256 by omega)) fun r6 h6 => W_bind (flow_tot hN (by omega) (by omega)) fun r7 _ => W_cond (fun _ => W_some ⟨hc, h5⟩) (fun _ => W_bind (hnn (by omega)) fun r8 h8 => ?_)
    refine W_bind (Q' := fun _ => True) (W_cond (fun _ => W_some trivial) (fun _ => W_cond (fun _ => W_bind (compare_tot hN (by omega)) fun r _ => W_some trivial) (fun _ => W_some trivial))) fun r10 _ => ?_
    exact W_bind (Q' := fun r : List Int × Int => r.1.length ≤ 8 ∧ 0 ≤ r.2 ∧ r.2 ≤ 800000000) (W_cond (fun _ => W_some ⟨h6, h8⟩) (fun _ => W_some ⟨hc, h5⟩)) fun r hr => W_some hr
  · obtain ⟨c, lp, k⟩ := s
    obtain ⟨hk, hc, h5⟩ := hI
    simp only at hk h5
    subst hk
    simp only [dnlt, cond_false]
    exact W_some h5
theorem power_nn {s : SnowSystem} (h : Small s) (hr : RightOk N s) (x : Int) : W (fun r : Int × Int => 0 ≤ r.1) (snowmaking_Power N s x) := by
  have h1 := h.guns
  have h2 := h.kinds
  unfold snowmaking_Power
  rw [Gn.draws_eq hN _ _ _ (by omega) (by omega), Option.bind_some, Gn.power_eq hN _ _ (by omega) (by omega) (Gn.right_zero hr.guns).2.2.1]
  have hd := Gn.draws_len s.Kinds s.Guns x
  have hpb := Gn.pow_bound (Gn.right_zero hr.guns).2.2.1 s.Guns
  refine W_bind (Q' := fun _ => True) ?_ fun r4 _ => W_bind (best_nn hN hr.pumps.1 hr.pumps.2 _) fun r5 h5 => W_cond (fun _ => W_some (Int.le_refl 0)) (fun _ => ?_)
  · refine W_loop (fun i s => s.2 = (i : Int)) (Gn.drawsS s.Kinds s.Guns x).length rfl (fun i s hi hI => ?_) (fun s hI => ?_) (by omega)
    · obtain ⟨a, k⟩ := s
      simp only at hI
      subst hI
      simp only [dlt hi, dge, Bool.and_self, cond_true, wrapC (show i < 9223372036854775807 by omega)]
      exact W_some rfl
    · obtain ⟨a, k⟩ := s
      simp only at hI
      subst hI
      simp only [dnlt, cond_false]
      exact W_some trivial
  · rw [Option.bind_some]
    refine W_some ?_
    show 0 ≤ IntKind.i64.wrap _
    rw [wrap64 (by omega) (by omega)]
    omega
theorem step_eq {s : SnowSystem} (h : Small s) (hr : RightOk N s) {x w pw e : Int} (hw : snowmaking_Why N s x = some w) (hp : snowmaking_Power N s x = some (pw, e)) (sec : Int) (ht : -9000000000000000000 ≤ sec ∧ sec ≤ 9000000000000000000) : snowmaking_Step N s x sec = some (stepS N s x sec w pw) := by
  suffices hs : W (fun r => r = stepS N s x sec w pw) (snowmaking_Step N s x sec) by
    obtain ⟨r, e1, e2⟩ := hs
    rw [e1, e2]
  have hg := h.guns
  have hk := h.kinds
  have hpk := h.packs
  have hrest := hr.rest
  have hcnt := hr.count
  obtain ⟨hpl, _⟩ := (Pn.right_iff s.Ponds).1 hr.ponds
  have hpa := Pn.right_all hr.ponds
  unfold snowmaking_Step
  simp only [cond_or, Option.bind_some, wrap64 (z := s.Time + sec) (by omega) (by omega)]
  unfold stepS
  refine W_cond (fun hb => W_some (by rw [hb]; rfl)) (fun hb => ?_)
  rw [hb, cond_false, hw, Option.bind_some]
  simp only [Bool.or_eq_false_iff, decide_eq_false_iff_not] at hb
  have h1 : 1 ≤ sec := by omega
  have h2 : sec ≤ 3600 := by omega
  refine W_cond (fun hw0 => W_some (by rw [hw0]; rfl)) (fun hw0 => ?_)
  rw [hw0, cond_false]
  have hw1 : w = 0 := by simpa using hw0
  subst hw1
  have hsb := sumL_bound h hr h1 h2 (x := x)
  refine W_bind (Q' := fun r : Int × (Int → Option Int) => r.1 = sumL s x sec ∧ ∀ u, (r.2 u).getD 0 = runL s x sec u) ?_ fun r10 h10 => ?_
  · refine W_loop (fun i st => st.2.1 = (i : Int) ∧ st.1 = ((s.Guns.take i).map (lit s x sec)).sum ∧ ∀ u, (st.2.2 u).getD 0 = ((s.Guns.take i).map (litR s x sec u)).sum) s.Guns.length ⟨rfl, by simp, by simp⟩ (fun i st hi hI => ?_) (fun st hI => ?_) (by omega)
    · obtain ⟨a, k, m⟩ := st
      obtain ⟨hk1, ha, hm⟩ := hI
      simp only at hk1 ha hm
      subst hk1
      have hd : gun_Draws N s.Kinds [s.Guns.getD i z_Gun] x = some (bif Gn.onB (s.Guns.getD i z_Gun) then [Draw.mk (s.Guns.getD i z_Gun).Node (Gn.outS (Gn.kindOf s.Kinds (s.Guns.getD i z_Gun).Kind) x)] else []) := by
        rw [Gn.draws_eq hN _ _ _ (by omega) (by simp)]
        unfold Gn.drawsS
        generalize s.Guns.getD i z_Gun = g
        cases hgo : Gn.onB g <;> simp [hgo]
      have htk : (s.Guns.take i).length ≤ 30 := by simp; omega
      have ba := Pn.sum_bound (lit s x sec) 600000 (s.Guns.take i) fun g _ => lit_bound hr h1 h2 g
      have bm := fun u => Pn.sum_bound (litR s x sec u) 600000 (s.Guns.take i) fun g _ => litR_bound hr h1 h2 u g
      have sa := Pn.sum_step (lit s x sec) s.Guns z_Gun i hi
      have sm := fun u => Pn.sum_step (litR s x sec u) s.Guns z_Gun i hi
      simp only [dlt hi, dge, Bool.and_self, cond_true, Int.toNat_natCast, Option.bind_some, hd, wrapC (show i < 9223372036854775807 by omega)]
      refine W_bind (Q' := fun r : Int × (Int → Option Int) => r.1 = a + lit s x sec (s.Guns.getD i z_Gun) ∧ ∀ u, (r.2 u).getD 0 = (m u).getD 0 + litR s x sec u (s.Guns.getD i z_Gun)) ?_ fun r9 h9 => W_some ⟨rfl, by simp only; rw [h9.1, ha, sa], fun u => by simp only; rw [h9.2, hm, sm]⟩
      cases hgo : Gn.onB (s.Guns.getD i z_Gun) with
      | false =>
        have l0 : lit s x sec (s.Guns.getD i z_Gun) = 0 := by unfold lit; rw [hgo]; rfl
        have l1 : ∀ u, litR s x sec u (s.Guns.getD i z_Gun) = 0 := fun u => by unfold litR; rw [l0]; cases (s.Guns.getD i z_Gun).Run == u <;> rfl
        refine W_loop (fun _ st => st = (a, (0 : Int), m)) 0 rfl (fun i s hi hI => by omega) (fun st hI => ?_) (by omega)
        subst hI
        refine W_some ⟨by simp only [l0, Int.add_zero], fun u => by simp only [l1, Int.add_zero]⟩
      | true =>
        have ol := out_lit hr h1 h2 (s.Guns.getD i z_Gun).Kind (x := x)
        have l0 : lit s x sec (s.Guns.getD i z_Gun) = Gn.outS (Gn.kindOf s.Kinds (s.Guns.getD i z_Gun).Kind) x * sec / 60 := by unfold lit; rw [hgo]; rfl
        have bl := lit_bound hr h1 h2 (s.Guns.getD i z_Gun) (x := x)
        refine W_loop (fun k st => st.2.1 = (k : Int) ∧ (k = 0 → st = (a, (0 : Int), m)) ∧ (k = 1 → st.1 = a + lit s x sec (s.Guns.getD i z_Gun) ∧ ∀ u, (st.2.2 u).getD 0 = (m u).getD 0 + litR s x sec u (s.Guns.getD i z_Gun))) 1 ⟨rfl, fun _ => rfl, fun h => by cases h⟩ (fun k st hk hI => ?_) (fun st hI => ?_) (by omega)
        · have hk0 : k = 0 := by omega
          subst hk0
          have hst := hI.2.1 rfl
          subst hst
          have e1 : ∀ d : Draw, List.getD [d] (Int.toNat ((0 : Nat) : Int)) z_Draw = d := fun d => rfl
          have e2 : ∀ d : Draw, List.getD [d] (Int.toNat 0) z_Draw = d := fun d => rfl
          have c1 : ∀ d : Draw, decide ((0 : Int) < (([d] : List Draw).length : Int)) = true := fun d => by simp
          have c2 : decide ((0 : Int) ≤ 0) = true := by decide
          have c3 : IntKind.i64.wrap ((0 : Int) + 1) = 1 := by decide
          simp only [cond_true, c1, c2, Bool.and_self, e2, ol.1, ← l0, c3]
          have hmr := hm (s.Guns.getD i z_Gun).Run
          have hmb := bm (s.Guns.getD i z_Gun).Run
          rw [wrap64 (z := a + lit s x sec (s.Guns.getD i z_Gun)) (by omega) (by omega), wrap64 (z := (m (s.Guns.getD i z_Gun).Run).getD 0 + lit s x sec (s.Guns.getD i z_Gun)) (by omega) (by omega)]
          refine W_some ⟨rfl, fun h => (by cases h), fun _ => ⟨rfl, fun u => ?_⟩⟩
          simp only
          by_cases hu : u = (s.Guns.getD i z_Gun).Run
          · subst hu
            unfold litR
            simp only [beq_self_eq_true, cond_true, Option.getD_some]
          · have q1 : (u == (s.Guns.getD i z_Gun).Run) = false := by rw [beq_eq_false_iff_ne]; exact hu
            have q2 : ((s.Guns.getD i z_Gun).Run == u) = false := by rw [beq_eq_false_iff_ne]; exact fun h => hu h.symm
            unfold litR
            simp only [q1, q2, cond_false, Int.add_zero]
        · obtain ⟨a', k', m'⟩ := st
          obtain ⟨hk', _, hI⟩ := hI
          simp only at hk'
          subst hk'
          have c1 : ∀ d : Draw, decide (((1 : Nat) : Int) < (([d] : List Draw).length : Int)) = false := fun d => by simp
          simp only [cond_true, c1, cond_false]
          exact W_some (hI rfl)
    · obtain ⟨a, k, m⟩ := st
      obtain ⟨hk1, ha, hm⟩ := hI
      simp only at hk1 ha hm
      subst hk1
      rw [List.take_length] at ha
      simp only [List.take_length] at hm
      simp only [dnlt, cond_false]
      exact W_some ⟨ha, hm⟩
  · obtain ⟨a, m⟩ := r10
    obtain ⟨ha, hm⟩ := h10
    simp only at ha hm
    subst ha
    simp only [Pn.spare_eq hN s.Ponds hpl hpa, Option.bind_some]
    refine W_cond (fun hb => W_some (by rw [hb]; rfl)) (fun hb2 => ?_)
    rw [hb2, cond_false]
    rw [decide_eq_false_iff_not] at hb2
    obtain ⟨pw', hp', hpl'⟩ := why_ok hN h hw
    rw [hp] at hp'
    simp only [Option.some.injEq, Prod.mk.injEq] at hp'
    obtain ⟨rfl, rfl⟩ := hp'
    obtain ⟨r, hr1, hr2⟩ := power_nn hN h hr x
    rw [hp] at hr1
    simp only [Option.some.injEq] at hr1
    rw [← hr1] at hr2
    have hpw : 0 ≤ pw := hr2
    obtain ⟨tk, trel, ttot⟩ := take_spec hN hpl hpa hsb.1 (show sumL s x sec ≤ Pn.spaI s.Ponds by omega)
    have tright := Pn.rel_right hr.ponds trel
    obtain ⟨tl, _⟩ := (Pn.right_iff _).1 tright
    have ta := Pn.right_all tright
    have hf : pond_Fill N (takeR N s.Ponds (sumL s x sec)) sec = some ((takeR N s.Ponds (sumL s x sec)).map (Pn.fillP sec), Pn.sumW (takeR N s.Ponds (sumL s x sec)) sec, 0) := by
      rw [Pn.fill_eq hN _ sec tl]
      unfold Pn.fillS
      have : (decide (sec < 0) || decide (sec > 86400)) = false := by simp only [Bool.or_eq_false_iff, decide_eq_false_iff_not]; omega
      rw [this]; rfl
    have hin : 0 ≤ Pn.sumW (takeR N s.Ponds (sumL s x sec)) sec ∧ Pn.sumW (takeR N s.Ponds (sumL s x sec)) sec ≤ 8000000000 := by
      rw [Pn.sumW_eq tl ta (by omega) (by omega)]
      have := Pn.sum_bound (fun p => Pn.fillI p sec) 1000000000 (takeR N s.Ponds (sumL s x sec)) fun p hp => by
        have q2 := ta p hp
        have q3 := Pn.fillI_bound q2 (t := sec) (by omega)
        unfold Pn.PondOk at q2
        omega
      omega
    have k1 : 0 ≤ pw * sec := Int.mul_nonneg hpw (by omega)
    have k2 : pw * sec ≤ 1000000000 * 3600 := Int.mul_le_mul (by omega) h2 (by omega) (by omega)
    simp only [hp, Option.bind_some, bne_self_eq_false, cond_false, copy_eq hN h, tk, hf, wrap64 (z := pw * sec) (by omega) (by omega), wrap64 (z := s.Energy + pw * sec) (by omega) (by omega), wrap64 (z := s.Water + sumL s x sec) (by omega) (by omega), wrap64 (z := s.Inflow + Pn.sumW (takeR N s.Ponds (sumL s x sec)) sec) (by omega) (by omega), hm]
    have hml : (s.Packs.map (newP s x sec)).length = s.Packs.length := by simp
    have hlb : ∀ i, 0 ≤ ((s.Packs.take i).map (lostP s x sec)).sum ∧ ((s.Packs.take i).map (lostP s x sec)).sum ≤ 18000000 * 30 := fun i => by
      have := Pn.sum_bound (lostP s x sec) 18000000 (s.Packs.take i) fun p hp => lost_bound h hr h1 h2 (pack_mem hr (List.mem_of_mem_take hp))
      have : (s.Packs.take i).length ≤ 30 := by simp; omega
      omega
    refine W_of_eq (bindS (fun i => ((i : Int), z_SnowSystem, SnowSystem.mk ((takeR N s.Ponds (sumL s x sec)).map (Pn.fillP sec)) s.Pumps s.Pipes s.Kinds s.Guns [] s.Pressure s.Limit s.Time (s.Water + sumL s x sec) (s.Lost + ((s.Packs.take i).map (lostP s x sec)).sum) (s.Energy + pw * sec) (s.Inflow + Pn.sumW (takeR N s.Ponds (sumL s x sec)) sec), mixd (s.Packs.map (newP s x sec)) s.Packs i))
        (by simp [mixd_zero]) (overP s x sec) (fun i => ((12 : Int), z_SnowSystem, SnowSystem.mk ((takeR N s.Ponds (sumL s x sec)).map (Pn.fillP sec)) s.Pumps s.Pipes s.Kinds s.Guns [] s.Pressure s.Limit s.Time (s.Water + sumL s x sec) (s.Lost + ((s.Packs.take i).map (lostP s x sec)).sum) (s.Energy + pw * sec) (s.Inflow + Pn.sumW (takeR N s.Ponds (sumL s x sec)) sec), mixd (s.Packs.map (newP s x sec)) s.Packs i))
        (z_SnowSystem, SnowSystem.mk ((takeR N s.Ponds (sumL s x sec)).map (Pn.fillP sec)) s.Pumps s.Pipes s.Kinds s.Guns [] s.Pressure s.Limit s.Time (s.Water + sumL s x sec) (s.Lost + (s.Packs.map (lostP s x sec)).sum) (s.Energy + pw * sec) (s.Inflow + Pn.sumW (takeR N s.Ponds (sumL s x sec)) sec), s.Packs.map (newP s x sec)) s.Packs.length (show s.Packs.length < N by omega) (fun i hi _ => ?_) (fun _ => ?_)) ?_
    · have hpo := hr.packs i hi
      have hpk' : PkOk (s.Packs.getD i z_RunPack).Pack := hpo.2.2.2.2
      have hmm := mm_bound h hr h1 h2 hpo (x := x)
      have hlo := lost_bound h hr h1 h2 hpo (x := x)
      have hrl := runL_bound h hr h1 h2 (s.Packs.getD i z_RunPack).Run (x := x)
      have hlbi := hlb i
      have hls := Pn.sum_step (lostP s x sec) s.Packs z_RunPack i hi
      have har : ((s.Packs.getD i z_RunPack).Area != 0) = true := by unfold PackOk at hpo; rw [bne_iff_ne]; omega
      have hdiv : min (1000 : Int) (IntKind.i64.wrap ((runL s x sec (s.Packs.getD i z_RunPack).Run).tdiv (s.Packs.getD i z_RunPack).Area)) = mmP s x sec (s.Packs.getD i z_RunPack) := by
        rw [Int.tdiv_eq_ediv_of_nonneg hrl.1, wrap64 (by omega) (by omega)]
        rfl
      have hset : (mixd (s.Packs.map (newP s x sec)) s.Packs i).set i (RunPack.mk (s.Packs.getD i z_RunPack).Run (s.Packs.getD i z_RunPack).Area (makeP (s.Packs.getD i z_RunPack).Pack (mmP s x sec (s.Packs.getD i z_RunPack)))) = mixd (s.Packs.map (newP s x sec)) s.Packs (i + 1) := by
        rw [← mixd_set hml hi (newP s x sec (s.Packs.getD i z_RunPack)) z_RunPack (getD_map _ _ _ _ _ hi).symm]
        rfl
      simp only [dlt hi, dge, Bool.and_self, cond_true, Int.toNat_natCast, mixd_len hml, mixd_getD hml hi, har, hdiv, make_eq hpk' hmm.1 hmm.2.1, Option.bind_some, wrapC (show i < 9223372036854775807 by omega)]
      cases hov : overP s x sec i with
      | true =>
        have : decide ((s.Packs.getD i z_RunPack).Pack.Machine + mmP s x sec (s.Packs.getD i z_RunPack) > 20000) = true := hov
        simp only [this, cond_true]
        rfl
      | false =>
        have : decide ((s.Packs.getD i z_RunPack).Pack.Machine + mmP s x sec (s.Packs.getD i z_RunPack) > 20000) = false := hov
        have hl1 : IntKind.i64.wrap (runL s x sec (s.Packs.getD i z_RunPack).Run - IntKind.i64.wrap (mmP s x sec (s.Packs.getD i z_RunPack) * (s.Packs.getD i z_RunPack).Area)) = lostP s x sec (s.Packs.getD i z_RunPack) := by
          rw [wrap64 (z := mmP s x sec (s.Packs.getD i z_RunPack) * (s.Packs.getD i z_RunPack).Area) (by omega) (by omega), wrap64 (by omega) (by omega)]
          rfl
        simp only [this, cond_false, bne_self_eq_false, hset, hl1, hls]
        rw [wrap64 (z := s.Lost + ((s.Packs.take i).map (lostP s x sec)).sum + lostP s x sec (s.Packs.getD i z_RunPack)) (by omega) (by omega), Int.add_assoc]
    · have hma := mixd_all hml
      simp only [dnlt, cond_false, List.take_length, hma]
    · cases hf : fst (overP s x sec) s.Packs.length with
      | some i => exact W_some rfl
      | none =>
        simp only [sres, Sum.elim_inl, counters_eq, Option.bind_some]
        refine W_cond (fun hc => W_some ?_) (fun hc => W_some ?_)
        · have hc' : cntB (stepT N s x sec pw).Water (stepT N s x sec pw).Lost (stepT N s x sec pw).Energy (stepT N s x sec pw).Inflow = false := by
            rw [Bool.not_eq_true'] at hc
            exact hc
          rw [hc']; rfl
        · have hc' : cntB (stepT N s x sec pw).Water (stepT N s x sec pw).Lost (stepT N s x sec pw).Energy (stepT N s x sec pw).Inflow = true := by
            rw [Bool.not_eq_false'] at hc
            exact hc
          rw [hc']
          simp only [Option.isSome_none, cond_false, cond_true, wrap64 (z := s.Time + sec) (by omega) (by omega)]
          rfl
end
end Go.Proofs.Ytkhkblihdabnoaa
