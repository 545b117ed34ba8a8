/- Own texts in one module: Sng8. No condition. -/
import Derived.Test.YtkhkblihdabnoaaGreatPlD
/- Snowmaking: Step and Switch are what the reference says; the law SnowmakingPlays in plain words. No condition. -/
namespace Go.Proofs.YtkhkblihdabnoaaGreat
open Go.Cm Go.Proofs
section
variable {N : Nat}
theorem rmake_eq {p : Pack} (h : PkOk p) {mm : Int} (h0 : 0 ≤ mm) (h1 : mm ≤ 1000) : r13_Make N p mm = some (bif decide (p.Machine + mm > 20000) then (z_Pack, 12) else (makeP p mm, 0)) := by
  have h' := h
  unfold PkOk at h'
  unfold r13_Make r13_in
  rw [rpack_right]
  have e1 : (decide (0 ≤ p.Natural) && decide (p.Natural ≤ 20000) && (decide (0 ≤ p.Machine) && decide (p.Machine ≤ 20000) && (decide (50 ≤ p.Density) && decide (p.Density ≤ 900)))) = true := by
    simp only [Bool.and_eq_true, decide_eq_true_eq]; omega
  have e6 : decide (mm ≥ 0) = true := by rw [decide_eq_true_eq]; omega
  have e7 : decide (mm ≤ 1000) = true := by rw [decide_eq_true_eq]; omega
  simp only [e1, e6, e7, Option.bind_some, Bool.not_true, cond_false, cond_true, wrap64 (z := p.Machine + mm) (by omega) (by omega)]
  cases hq : decide (p.Machine + mm > 20000) with
  | true => rfl
  | false =>
    rw [decide_eq_false_iff_not] at hq
    unfold r13_Common makeP densP
    simp only [cond_false, wrap64 (z := p.Natural + p.Machine) (by omega) (by omega)]
    by_cases hm : mm > 0
    · obtain ⟨d1, d2, d3⟩ := dens_facts h hm h1
      have m0 : (mm == 0) = false := by rw [beq_eq_false_iff_ne]; omega
      have n0 : ((p.Natural + p.Machine) * 450 + mm * p.Density != 0) = true := by rw [bne_iff_ne]; omega
      simp only [m0, cond_false, hm, decide_true, cond_true, wrap64 (z := (p.Natural + p.Machine) * 450) (by omega) (by omega), wrap64 (z := mm * p.Density) (by omega) (by omega), wrap64 (z := (p.Natural + p.Machine) * 450 + mm * p.Density) (by omega) (by omega), n0,
        wrap64 (z := p.Natural + p.Machine + mm) (by omega) (by omega), wrap64 (z := (p.Natural + p.Machine + mm) * p.Density) (by omega) (by omega), wrap64 (z := (p.Natural + p.Machine + mm) * p.Density * 450) (by omega) (by omega), Option.bind_some,
        Int.tdiv_eq_ediv_of_nonneg (show 0 ≤ (p.Natural + p.Machine + mm) * p.Density * 450 by omega), wrap64 (z := (p.Natural + p.Machine + mm) * p.Density * 450 / ((p.Natural + p.Machine) * 450 + mm * p.Density)) (by omega) (by omega)]
    · have m0 : mm = 0 := by omega
      subst m0
      rfl
end
section
variable {N : Nat} (hN : 1000 < N)
include hN
theorem rkindOf_eq {ks : List GunKind} (hk : ks.length ≤ 900) (id : Int) : r44_kind N ks id = some (Gn.kindOf ks id) := by
  unfold r44_kind Gn.kindOf
  refine (bindS (fun i => ((i : Int), z_GunKind)) rfl (fun j => (ks.getD j z_GunKind).ID == id) (fun j => ks.getD j z_GunKind) z_GunKind ks.length (show ks.length < N by omega) (fun i hi _ => ?_) (fun _ => ?_)).trans ?_
  · simp only [dlt hi, dge, Bool.and_self, cond_true, Int.toNat_natCast, wrapC (show i < 9223372036854775807 by omega)]
  · simp only [dnlt, cond_false]
  · cases fst (fun j => (ks.getD j z_GunKind).ID == id) ks.length <;> rfl
theorem rwater_eq {s : SnowSystem} (h : Small s) (hr : RightOk N s) {x sec : Int} (h1 : 1 ≤ sec) (h2 : sec ≤ 3600) (g : Gun) : r44_water N s g x sec = some (lit s x sec g) := by
  have hk := h.kinds
  unfold r44_water lit
  have ho : (g.State != 1) = !Gn.onB g := rfl
  rw [ho, rkindOf_eq hN (by omega), Option.bind_some, Gn.rout_eq hN, Option.bind_some, (out_lit hr h1 h2 g.Kind).1]
  cases Gn.onB g <;> rfl
theorem rfall_eq {s : SnowSystem} (h : Small s) (hr : RightOk N s) {x sec : Int} (h1 : 1 ≤ sec) (h2 : sec ≤ 3600) {p : RunPack} (hp : PackOk p) : r44_fall N s p x sec = some (bif decide (p.Pack.Machine + mmP s x sec p > 20000) then (p, 0, 12) else (newP s x sec p, lostP s x sec p, 0)) := by
  have hg := h.guns
  have hrl := runL_bound h hr h1 h2 p.Run (x := x)
  have hmm := mm_bound h hr h1 h2 hp (x := x)
  have hlo := lost_bound h hr h1 h2 hp (x := x)
  have har : (p.Area != 0) = true := by unfold PackOk at hp; rw [bne_iff_ne]; omega
  unfold r44_fall
  refine (bindT (fun i => (((s.Guns.take i).map (litR s x sec p.Run)).sum, (i : Int))) rfl (runL s x sec p.Run) s.Guns.length (show s.Guns.length < N by omega) (fun i hi => ?_) ?_).trans ?_
  · have hb := Pn.sum_bound (litR s x sec p.Run) 600000 (s.Guns.take (i + 1)) fun g _ => litR_bound hr h1 h2 p.Run g
    have hbl : (s.Guns.take (i + 1)).length ≤ 30 := by simp; omega
    have e := Pn.sum_step (litR s x sec p.Run) s.Guns z_Gun i hi
    simp only [dlt hi, dge, Bool.and_self, cond_true, Int.toNat_natCast, rwater_eq hN h hr h1 h2, Option.bind_some, wrapC (show i < 9223372036854775807 by omega)]
    rw [e] at hb ⊢
    unfold litR at hb ⊢
    cases hu : (s.Guns.getD i z_Gun).Run == p.Run with
    | true =>
      rw [hu, cond_true] at hb
      simp only [cond_true, Option.bind_some]
      rw [wrap64 (by omega) (by omega)]
    | false => simp only [cond_false, Option.bind_some, Int.add_zero]
  · simp only [dnlt, cond_false, List.take_length]
    rfl
  · have hdiv : (bif decide (IntKind.i64.wrap ((runL s x sec p.Run).tdiv p.Area) > 1000) then some (1000 : Int) else some (IntKind.i64.wrap ((runL s x sec p.Run).tdiv p.Area))) = some (mmP s x sec p) := by
      rw [Int.tdiv_eq_ediv_of_nonneg hrl.1, wrap64 (by omega) (by omega)]
      unfold mmP
      cases hc : decide (runL s x sec p.Run / p.Area > 1000) with
      | true => rw [decide_eq_true_eq] at hc; rw [cond_true, Int.min_eq_left (by omega)]
      | false => rw [decide_eq_false_iff_not] at hc; rw [cond_false, Int.min_eq_right (by omega)]
    have hpk : PkOk p.Pack := hp.2.2.2.2
    have hl1 : IntKind.i64.wrap (runL s x sec p.Run - IntKind.i64.wrap (mmP s x sec p * p.Area)) = lostP s x sec p := by
      rw [wrap64 (z := mmP s x sec p * p.Area) (by omega) (by omega), wrap64 (by omega) (by omega)]
      rfl
    simp only [har, cond_true, hdiv, Option.bind_some, rmake_eq hpk hmm.1 hmm.2.1, hl1]
    cases decide (p.Pack.Machine + mmP s x sec p > 20000) <;> rfl
theorem rstep_eq {s : SnowSystem} (h : Small s) (hr : RightOk N s) (hl : Link s) {x w pw e : Int} (hw : snowmaking_Why N s x = some w) (hp : snowmaking_Power N s x = some (pw, e)) (sec : Int) : r44_Step N s x sec = some (stepS N s x sec w pw) := by
  have hg := h.guns
  have hpk := h.packs
  have hrest := hr.rest
  have hcnt := hr.count
  obtain ⟨hpl, _⟩ := (Pn.right_iff s.Ponds).1 hr.ponds
  have hpa := Pn.right_all hr.ponds
  unfold r44_Step stepS
  simp only [cond_or, Option.bind_some]
  have hc0 : (decide (sec < 1) || (decide (sec > 3600) || (decide (s.Time > IntKind.i64.wrap (20000000 - sec)) || (decide (x < -1000) || decide (x > 1000))))) = (decide (sec < 1) || (decide (sec > 3600) || (decide (s.Time + sec > 20000000) || (decide (x < -1000) || decide (x > 1000))))) := by
    by_cases a1 : sec < 1
    · rw [decide_eq_true a1, Bool.true_or, Bool.true_or]
    · by_cases a2 : sec > 3600
      · rw [decide_eq_true a2, Bool.true_or, Bool.true_or]
      · have : decide (s.Time > IntKind.i64.wrap (20000000 - sec)) = decide (s.Time + sec > 20000000) := by
          rw [wrap64 (by omega) (by omega), decide_eq_decide]
          omega
        rw [this]
  rw [hc0]
  cases hb : (decide (sec < 1) || (decide (sec > 3600) || (decide (s.Time + sec > 20000000) || (decide (x < -1000) || decide (x > 1000))))) with
  | true => rfl
  | false =>
  simp only [Bool.or_eq_false_iff, decide_eq_false_iff_not] at hb
  have h1 : 1 ≤ sec := by omega
  have h2 : sec ≤ 3600 := by omega
  rw [cond_false, cond_false, why_same hN h hr hl, hw, Option.bind_some]
  cases hw0 : w != 0 with
  | true => rfl
  | false =>
  rw [cond_false, cond_false]
  have hw1 : w = 0 := by simpa using hw0
  subst hw1
  have hsb := sumL_bound h hr h1 h2 (x := x)
  refine (bindT (fun i => (((s.Guns.take i).map (lit s x sec)).sum, (i : Int))) rfl (sumL s x sec) s.Guns.length (show s.Guns.length < N by omega) (fun i hi => ?_) ?_).trans ?_
  · have hb := Pn.sum_bound (lit s x sec) 600000 (s.Guns.take (i + 1)) fun g _ => lit_bound hr h1 h2 g
    have hbl : (s.Guns.take (i + 1)).length ≤ 30 := by simp; omega
    have e := Pn.sum_step (lit s x sec) s.Guns z_Gun i hi
    simp only [dlt hi, dge, Bool.and_self, cond_true, Int.toNat_natCast, rwater_eq hN h hr h1 h2, Option.bind_some, wrapC (show i < 9223372036854775807 by omega)]
    rw [e] at hb ⊢
    rw [wrap64 (by omega) (by omega)]
  · simp only [dnlt, cond_false, List.take_length]
    rfl
  cases hb2 : decide (sumL s x sec > Pn.spaI s.Ponds) with
  | true =>
    rw [decide_eq_true_eq] at hb2
    rw [(Pn.take_high hN hpl hpa hsb.1 hb2).2]
    rfl
  | false =>
  rw [decide_eq_false_iff_not] at hb2
  rw [cond_false]
  obtain ⟨pw', hp', hpl'⟩ := why_ok hN h hw
  rw [hp] at hp'
  simp only [Option.some.injEq, Prod.mk.injEq] at hp'
  obtain ⟨rfl, rfl⟩ := hp'
  obtain ⟨r, hr1, hr2⟩ := power_nn hN h hr x
  rw [hp] at hr1
  simp only [Option.some.injEq] at hr1
  rw [← hr1] at hr2
  have hpw : 0 ≤ pw := hr2
  obtain ⟨tk, trel, ttot⟩ := take_spec hN hpl hpa hsb.1 (show sumL s x sec ≤ Pn.spaI s.Ponds by omega)
  have rtk : r39_Take N s.Ponds (sumL s x sec) = some (takeR N s.Ponds (sumL s x sec), 0) := by
    rw [← tk]
    by_cases hz : sumL s x sec = 0
    · rw [hz, (Pn.take_zero hN hpl hpa).1, (Pn.take_zero hN hpl hpa).2]
    · obtain ⟨o, _, e1, e2⟩ := Pn.take_both hN hpl hpa (x := sumL s x sec) (by omega) (by omega)
      rw [e1, e2]
  have tright := Pn.rel_right hr.ponds trel
  obtain ⟨tl, _⟩ := (Pn.right_iff _).1 tright
  have ta := Pn.right_all tright
  have hf : r39_Fill N (takeR N s.Ponds (sumL s x sec)) sec = some ((takeR N s.Ponds (sumL s x sec)).map (Pn.fillP sec), Pn.sumW (takeR N s.Ponds (sumL s x sec)) sec, 0) := by
    rw [Pn.rfill_eq hN _ sec tl]
    unfold Pn.fillS
    have : (decide (sec < 0) || decide (sec > 86400)) = false := by simp only [Bool.or_eq_false_iff, decide_eq_false_iff_not]; omega
    rw [this]; rfl
  have hin : 0 ≤ Pn.sumW (takeR N s.Ponds (sumL s x sec)) sec ∧ Pn.sumW (takeR N s.Ponds (sumL s x sec)) sec ≤ 8000000000 := by
    rw [Pn.sumW_eq tl ta (by omega) (by omega)]
    have := Pn.sum_bound (fun p => Pn.fillI p sec) 1000000000 (takeR N s.Ponds (sumL s x sec)) fun p hp => by
      have q2 := ta p hp
      have q3 := Pn.fillI_bound q2 (t := sec) (by omega)
      unfold Pn.PondOk at q2
      omega
    omega
  have k1 : 0 ≤ pw * sec := Int.mul_nonneg hpw (by omega)
  have k2 : pw * sec ≤ 1000000000 * 3600 := Int.mul_le_mul (by omega) h2 (by omega) (by omega)
  rw [rtk]
  simp only [Option.bind_some, bne_self_eq_false, cond_false, hf, power_same hN h hr hl, hp, wrap64 (z := pw * sec) (by omega) (by omega), wrap64 (z := s.Energy + pw * sec) (by omega) (by omega), wrap64 (z := s.Water + sumL s x sec) (by omega) (by omega), wrap64 (z := s.Inflow + Pn.sumW (takeR N s.Ponds (sumL s x sec)) sec) (by omega) (by omega), wrap64 (z := s.Time + sec) (by omega) (by omega)]
  have hlb : ∀ i, 0 ≤ ((s.Packs.take i).map (lostP s x sec)).sum ∧ ((s.Packs.take i).map (lostP s x sec)).sum ≤ 18000000 * 30 := fun i => by
    have := Pn.sum_bound (lostP s x sec) 18000000 (s.Packs.take i) fun p hp => lost_bound h hr h1 h2 (pack_mem hr (List.mem_of_mem_take hp))
    have : (s.Packs.take i).length ≤ 30 := by simp; omega
    omega
  refine (bindS (fun i => ((s.Packs.take i).map (newP s x sec), ((s.Packs.take i).map (lostP s x sec)).sum, (i : Int), z_SnowSystem, z_SnowSystem)) rfl (overP s x sec) (fun _ => ((12 : Int), z_SnowSystem, z_SnowSystem))
    (s.Packs.map (newP s x sec), (s.Packs.map (lostP s x sec)).sum, z_SnowSystem, z_SnowSystem) s.Packs.length (show s.Packs.length < N by omega) (fun i hi _ => ?_) (fun _ => ?_)).trans ?_
  · have hpo := hr.packs i hi
    have hlbi := hlb (i + 1)
    have hls := Pn.sum_step (lostP s x sec) s.Packs z_RunPack i hi
    have hmp : (s.Packs.take (i + 1)).map (newP s x sec) = (s.Packs.take i).map (newP s x sec) ++ [newP s x sec (s.Packs.getD i z_RunPack)] := by
      rw [take_getD s.Packs i z_RunPack hi, List.map_append]
      rfl
    have hbd : ∀ y : RunPack, decide ((((s.Packs.take i).map (newP s x sec)).length + [y].length) * 40 ≤ 140737488355328) = true := fun y => by
      simp only [List.length_singleton, List.length_map, List.length_take, decide_eq_true_eq]; omega
    simp only [dlt hi, dge, Bool.and_self, cond_true, Int.toNat_natCast, rfall_eq hN h hr h1 h2 hpo, Option.bind_some, wrapC (show i < 9223372036854775807 by omega)]
    cases hov : overP s x sec i with
    | true =>
      have : decide ((s.Packs.getD i z_RunPack).Pack.Machine + mmP s x sec (s.Packs.getD i z_RunPack) > 20000) = true := hov
      simp only [this, cond_true]
      rfl
    | false =>
      have : decide ((s.Packs.getD i z_RunPack).Pack.Machine + mmP s x sec (s.Packs.getD i z_RunPack) > 20000) = false := hov
      rw [hls] at hlbi
      simp only [this, cond_false, bne_self_eq_false, hbd, cond_true, hls, hmp]
      rw [wrap64 (by omega) (by omega)]
  · simp only [dnlt, cond_false, List.take_length]
  · cases hfo : fst (overP s x sec) s.Packs.length with
    | some i => rfl
    | none =>
      have hlall := hlb s.Packs.length
      rw [List.take_length] at hlall
      simp only [sres, Sum.elim_inl, Option.isSome_none, cond_false]
      rw [wrap64 (z := s.Lost + (s.Packs.map (lostP s x sec)).sum) (by omega) (by omega)]
      have hcc : (decide (s.Water + sumL s x sec > 1125899906842624) || (decide (s.Lost + (s.Packs.map (lostP s x sec)).sum > 1125899906842624) || (decide (s.Inflow + Pn.sumW (takeR N s.Ponds (sumL s x sec)) sec > 1125899906842624) || decide (s.Energy + pw * sec > 1125899906842624)))) = !cntB (stepT N s x sec pw).Water (stepT N s x sec pw).Lost (stepT N s x sec pw).Energy (stepT N s x sec pw).Inflow := by
        unfold cntB stepT
        rw [Bool.eq_iff_iff]
        simp only [Bool.or_eq_true, Bool.not_eq_true', Bool.and_eq_false_iff, decide_eq_true_eq, decide_eq_false_iff_not]
        omega
      rw [hcc]
      cases cntB (stepT N s x sec pw).Water (stepT N s x sec pw).Lost (stepT N s x sec pw).Energy (stepT N s x sec pw).Inflow <;> rfl
theorem rat_eq {s : SnowSystem} (h : Small s) (id : Int) : whileF N (fun (p4 : Int × Int) =>
        bif decide (p4.snd ≥ (0 : Int)) then
          bif decide ((0 : Int) ≤ p4.snd) && decide (p4.snd < (↑s.Guns.length : Int)) then
            (bif (s.Guns.getD (Int.toNat p4.snd) z_Gun).ID == id then some p4.snd else some p4.fst).bind
              fun (r5 : Int) => some (Sum.inl (r5, IntKind.i64.wrap (p4.snd - (1 : Int))))
          else none
        else some (Sum.inr p4.fst))
      ((-1 : Int), IntKind.i64.wrap ((↑s.Guns.length : Int) - (1 : Int))) = some (oi (fst (fun i => (s.Guns.getD i z_Gun).ID == id) s.Guns.length)) := by
  have hg := h.guns
  suffices hs : W (fun r => r = oi (fst (fun i => (s.Guns.getD i z_Gun).ID == id) s.Guns.length)) (whileF N (fun (p4 : Int × Int) =>
        bif decide (p4.snd ≥ (0 : Int)) then
          bif decide ((0 : Int) ≤ p4.snd) && decide (p4.snd < (↑s.Guns.length : Int)) then
            (bif (s.Guns.getD (Int.toNat p4.snd) z_Gun).ID == id then some p4.snd else some p4.fst).bind
              fun (r5 : Int) => some (Sum.inl (r5, IntKind.i64.wrap (p4.snd - (1 : Int))))
          else none
        else some (Sum.inr p4.fst))
      ((-1 : Int), IntKind.i64.wrap ((↑s.Guns.length : Int) - (1 : Int)))) by
    obtain ⟨r, e, rfl⟩ := hs
    exact e
  refine W_loop (fun k st => st.2 = (s.Guns.length : Int) - 1 - k ∧ ((st.1 = -1 ∧ ∀ j, s.Guns.length ≤ j + k → j < s.Guns.length → ((s.Guns.getD j z_Gun).ID == id) = false) ∨ ∃ a : Nat, st.1 = (a : Int) ∧ s.Guns.length ≤ a + k ∧ a < s.Guns.length ∧ ((s.Guns.getD a z_Gun).ID == id) = true ∧ ∀ j, s.Guns.length ≤ j + k → j < a → ((s.Guns.getD j z_Gun).ID == id) = false)) s.Guns.length
    ⟨by simp only; rw [wrap64 (by omega) (by omega)]; omega, .inl ⟨rfl, fun j hj hj' => by omega⟩⟩ (fun k st hk hI => ?_) (fun st hI => ?_) (by omega)
  · obtain ⟨c, z⟩ := st
    obtain ⟨hz, hc⟩ := hI
    simp only at hz hc
    obtain ⟨m, hm, e0⟩ : ∃ m : Nat, m + k + 1 = s.Guns.length ∧ (s.Guns.length : Int) - 1 - k = (m : Int) := ⟨s.Guns.length - 1 - k, by omega, by omega⟩
    have hml : m < s.Guns.length := by omega
    rw [e0] at hz
    subst hz
    have g0 : decide ((m : Int) ≥ 0) = true := by simp
    have hw : IntKind.i64.wrap ((m : Int) - 1) = (m : Int) - 1 := wrap64 (by omega) (by omega)
    simp only [g0, cond_true, dge, dlt hml, Bool.and_self, Int.toNat_natCast, hw]
    cases hcm : (s.Guns.getD m z_Gun).ID == id with
    | true =>
      refine W_some ⟨by simp only; omega, .inr ⟨m, rfl, by omega, hml, hcm, fun j hj hj' => by omega⟩⟩
    | false =>
      refine W_some ⟨by simp only; omega, ?_⟩
      rcases hc with ⟨c1, c2⟩ | ⟨a, a1, a2, a3, a4, a5⟩
      · refine .inl ⟨c1, fun j hj hj' => ?_⟩
        by_cases hjm : j = m
        · subst hjm; exact hcm
        · exact c2 j (by omega) hj'
      · refine .inr ⟨a, a1, by omega, a3, a4, fun j hj hj' => ?_⟩
        by_cases hjm : j = m
        · subst hjm; exact hcm
        · exact a5 j (by omega) hj'
  · obtain ⟨c, z⟩ := st
    obtain ⟨hz, hc⟩ := hI
    simp only at hz hc
    have hz : z = -1 := by omega
    subst hz
    have g0 : decide ((-1 : Int) ≥ 0) = false := by decide
    simp only [g0, cond_false]
    refine W_some ?_
    simp only [Sum.elim_inr]
    rcases hc with ⟨c1, c2⟩ | ⟨a, a1, a2, a3, a4, a5⟩
    · rw [c1, fst_none.2 fun j hj => c2 j (by omega) hj]
      rfl
    · rw [a1, fst_some.2 ⟨a3, a4, fun j hj => a5 j (by omega) hj⟩]
      rfl
theorem rswitch_eq {s : SnowSystem} (h : Small s) (hr : RightOk N s) (hl : Link s) (id x : Int) (on : Bool) : r44_Switch N s id on x = snowmaking_Switch N s id on x := by
  have hg := h.guns
  rw [switch_eq hN h]
  unfold r44_Switch
  rw [rat_eq hN h, Option.bind_some]
  cases hf : fst (fun i => (s.Guns.getD i z_Gun).ID == id) s.Guns.length with
  | none => rfl
  | some i =>
    obtain ⟨hi, _, _⟩ := fst_some.1 hf
    have g0 : decide (oi (some i) < 0) = false := by rw [decide_eq_false_iff_not]; simp [oi]
    have g1 : decide (0 ≤ oi (some i)) = true := by simp [oi]
    have g2 : decide (oi (some i) < (s.Guns.length : Int)) = true := by simp [oi, hi]
    have g3 : (oi (some i)).toNat = i := rfl
    have g4 : decide ((0 + s.Guns.length) * 64 ≤ 140737488355328) = true := by rw [decide_eq_true_eq]; omega
    simp only [g0, cond_false, g1, g2, g3, g4, Bool.and_self, cond_true, Gn.rstop_eq, Gn.rstart_eq, Option.bind_some, List.nil_append]
    cases on with
    | true =>
      cases ht : Gn.startS (s.Guns.getD i z_Gun) s.Time with
      | mk g e =>
        simp only [cond_true, Option.bind_some, turnS, ht]
        cases he : e != 0 with
        | true => rfl
        | false =>
          have e0 : e = 0 := by simpa using he
          subst e0
          have hk := kept_gun h hr hl hi (on := true) (g := g) ht
          have hws := why_same hN hk.sm hk.ok hk.lnk x
          unfold withGun at hws ⊢
          simp only [cond_false, hws]
          cases snowmaking_Why N (SnowSystem.mk s.Ponds s.Pumps s.Pipes s.Kinds (s.Guns.set i g) s.Packs s.Pressure s.Limit s.Time s.Water s.Lost s.Energy s.Inflow) x with
          | none => rfl
          | some w => simp only [Option.bind_some]; cases w != 0 <;> rfl
    | false =>
      simp only [cond_false, Option.bind_some, turnS]
      cases (Gn.stopS (s.Guns.getD i z_Gun) s.Time).2 != 0 <;> rfl
omit hN in
theorem step_z (s : SnowSystem) (x sec w pw : Int) : (stepS N s x sec w pw).2 ≠ 0 → (stepS N s x sec w pw).1 = z_SnowSystem := by
  unfold stepS
  cases (decide (sec < 1) || (decide (sec > 3600) || (decide (s.Time + sec > 20000000) || (decide (x < -1000) || decide (x > 1000)))))
  · rw [cond_false]
    cases w != 0
    · rw [cond_false]
      cases decide (sumL s x sec > Pn.spaI s.Ponds)
      · rw [cond_false]
        cases (fst (overP s x sec) s.Packs.length).isSome
        · rw [cond_false]
          cases cntB (stepT N s x sec pw).Water (stepT N s x sec pw).Lost (stepT N s x sec pw).Energy (stepT N s x sec pw).Inflow
          · exact fun _ => rfl
          · exact fun h => absurd rfl h
        · exact fun _ => rfl
      · exact fun _ => rfl
    · exact fun _ => rfl
  · exact fun _ => rfl
omit hN in
theorem small_z : Small z_SnowSystem := ⟨by decide, by decide, by decide, by decide, by decide, by decide, fun i hi => by cases hi⟩
theorem switch_z {s : SnowSystem} (h : Small s) (id x : Int) (on : Bool) : W (fun r : SnowSystem × Int => r.2 ≠ 0 → r.1 = z_SnowSystem) (snowmaking_Switch N s id on x) := by
  rw [switch_eq hN h]
  cases hf : fst (fun i => (s.Guns.getD i z_Gun).ID == id) s.Guns.length with
  | none => exact W_some fun _ => rfl
  | some i =>
    obtain ⟨hi, _, _⟩ := fst_some.1 hf
    simp only
    have hsm : Small (withGun s i (turnS on (s.Guns.getD i z_Gun) s.Time).1) := ⟨h.ponds, h.pumps, h.pipes, by simp only [withGun, List.length_set]; exact h.guns, h.packs, h.kinds, h.outs⟩
    refine W_cond (fun _ => W_some fun _ => rfl) (fun _ => W_cond (fun _ => W_bind (why_tot hN hsm x) fun w _ => W_cond (fun _ => W_some fun _ => rfl) (fun _ => W_some fun h0 => absurd rfl h0)) (fun _ => W_some fun h0 => absurd rfl h0))
/-- a call, and the reference's answer -/
theorem done_both {s : SnowSystem} (h : Small s) (hr : RightOk N s) (hl : Link s) (o : Op) : ∃ r q, l44_done N s o = some r ∧ r44_Step N s o.Wet o.N = some q ∧ (bif o.Kind != 0 then (r44_Switch N s o.N (o.Kind == 1) o.Wet).bind fun r8 => some (r8.2, r8.1) else some (q.2, q.1)) = some (r.2, r.1) ∧ Small r.1 ∧ (r.2 = 0 → Kept N s r.1) := by
  obtain ⟨w, hw, _⟩ := why_tot hN h o.Wet
  obtain ⟨⟨pw, e⟩, hp, _⟩ := power_tot hN h o.Wet
  obtain ⟨r, hd, hk⟩ := done_kept hN h hr hl o
  refine ⟨r, _, hd, rstep_eq hN h hr hl hw hp o.N, ?_⟩
  unfold l44_done at hd
  have key : (r.2 ≠ 0 → r.1 = z_SnowSystem) → Small r.1 := fun hz => by
    by_cases h0 : r.2 = 0
    · exact (hk h0).sm
    · rw [hz h0]; exact small_z
  cases hk0 : o.Kind == 0 with
  | true =>
    have hk1 : (o.Kind != 0) = false := by rw [bne, hk0]; rfl
    rw [hk0, cond_true, step_eq2 hN h hr hw hp, Option.bind_some, Option.some.injEq] at hd
    rw [hk1, cond_false, hd]
    exact ⟨rfl, key (by rw [← hd]; exact step_z s _ _ _ _), hk⟩
  | false =>
    have hk1 : (o.Kind != 0) = true := by rw [bne, hk0]; rfl
    obtain ⟨r', e', hz⟩ := switch_z hN h o.N o.Wet (o.Kind == 1)
    rw [hk0, cond_false, e', Option.bind_some, Option.some.injEq] at hd
    subst hd
    rw [hk1, cond_true, rswitch_eq hN h hr hl, e', Option.bind_some]
    exact ⟨rfl, key hz, hk⟩
end
theorem t_SnowmakingPlays : AllW (fun y => y = some true) [TI.t_SnowSystem, TI.l_Op] (l44_SnowmakingPlays 2000) := fun (s : SnowSystem) _ (l : List Op) _ => by
  show l44_SnowmakingPlays 2000 s l = some true
  have hN : 1000 < 2000 := by omega
  unfold l44_SnowmakingPlays
  rw [alive_ok]
  obtain ⟨b, hb, hS⟩ := lright_spec hN s
  simp only [Option.bind_some, Bool.not_true, cond_false, hb]
  cases b with
  | false => rfl
  | true =>
    obtain ⟨h, hr, hl⟩ := hS rfl
    simp only [Bool.not_true, cond_false, Option.bind_some]
    cases h5 : decide ((l.length : Int) > 30) with
    | true => rfl
    | false =>
      rw [decide_eq_false_iff_not] at h5
      rw [cond_false]
      refine bind_inv (fun i st => st.1 = (i : Int) ∧ Kept 2000 s st.2) (fun r => ∃ t, r = Sum.inl t) l.length ⟨rfl, kept_refl h hr hl⟩ (fun i st hi hI => .inl ?_) (fun st hI => ?_) (show l.length < 2000 by omega) (fun r hr => by obtain ⟨t, rfl⟩ := hr; rfl)
      · obtain ⟨k, t⟩ := st
        obtain ⟨hk, hI⟩ := hI
        simp only at hk hI
        subst hk
        obtain ⟨r, q, e1, e2, e3, hsm, hkp⟩ := done_both hN hI.sm hI.ok hI.lnk (l.getD i z_Op)
        refine ⟨((i + 1 : Nat), bif r.2 == 0 then r.1 else t), ?_, rfl, ?_⟩
        · simp only [dlt hi, dge, Bool.and_self, cond_true, Int.toNat_natCast, e1, e2, Option.bind_some, e3, bne_self_eq_false, cond_false, same_refl hN hsm, Bool.not_true, wrapC (show i < 9223372036854775807 by omega)]
          cases r.2 == 0 <;> rfl
        · cases h0 : r.2 == 0 with
          | true => exact kept_trans hI (hkp (by simpa using h0))
          | false => exact hI
      · obtain ⟨k, t⟩ := st
        obtain ⟨hk, hI⟩ := hI
        simp only at hk
        subst hk
        exact ⟨_, by simp only [dnlt, cond_false], t, rfl⟩
end Go.Proofs.YtkhkblihdabnoaaGreat

