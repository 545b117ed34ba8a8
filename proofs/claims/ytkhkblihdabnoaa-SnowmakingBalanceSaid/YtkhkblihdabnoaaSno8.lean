/- Snowmaking: equal systems; the law SnowmakingIdle in plain words. No condition. -/
import Derived.Test.YtkhkblihdabnoaaSno6
import Derived.Test.YtkhkblihdabnoaaSno7
namespace Go.Proofs.Ytkhkblihdabnoaa
open Go.Cm Go.Proofs
section
variable {N : Nat} (hN : 1000 < N)
include hN
theorem sameKind_refl (k : GunKind) (h : k.Output.length ≤ 900) : r44_sameKind N k k = some true := by
  unfold r44_sameKind
  simp only [bne_self_eq_false, cond_false, Option.bind_some]
  rw [through () k.Output.length (by omega) (fun i hi => ?_) (by simp)]
  · rfl
  · simp only [dlt hi, dge, Bool.and_self, cond_true, beq_self_eq_true, Bool.not_true, cond_false, wrapN (show i < 9223372036854775807 by omega)]
theorem samePacks_refl (l : List RunPack) (h : l.length ≤ 900) : r44_SamePacks N l l = some true := by
  unfold r44_SamePacks
  simp only [bne_self_eq_false, cond_false, Option.bind_some]
  rw [through () l.length (by omega) (fun i hi => ?_) (by simp)]
  · rfl
  · simp only [dlt hi, dge, Bool.and_self, cond_true, beq_self_eq_true, Bool.not_true, cond_false, wrapN (show i < 9223372036854775807 by omega)]
theorem same_refl {s : SnowSystem} (h : Small s) : r44_Same N s s = some true := by
  have h1 := h.guns
  have h2 := h.kinds
  have h3 := h.pipes
  have h4 := h.packs
  have h5 := h.ponds
  have h6 := h.pumps
  unfold r44_Same
  simp only [bne_self_eq_false, cond_false, Option.bind_some, samePacks_refl hN s.Packs (by omega), Bool.not_true]
  rw [through () s.Ponds.length (by omega) (fun i hi => ?_) (by simp), through () s.Pumps.length (by omega) (fun i hi => ?_) (by simp), through () s.Pipes.length (by omega) (fun i hi => ?_) (by simp), through () s.Guns.length (by omega) (fun i hi => ?_) (by simp), through () s.Kinds.length (by omega) (fun i hi => ?_) (by simp)]
  · simp only [Option.bind_some, Sum.elim_inl, beq_self_eq_true, cond_true]
  · have := h.outs i hi
    simp only [dlt hi, dge, Bool.and_self, cond_true, Int.toNat_natCast, sameKind_refl hN (s.Kinds.getD i z_GunKind) (by omega), Option.bind_some, Bool.not_true, cond_false, wrapN (show i < 9223372036854775807 by omega)]
  all_goals simp only [dlt hi, dge, Bool.and_self, cond_true, beq_self_eq_true, Bool.not_true, cond_false, wrapN (show i < 9223372036854775807 by omega)]
theorem rtotal_eq (l : List Pond) (hl : l.length ≤ 8) (h : ∀ p, p ∈ l → Pn.PondOk p) : r39_Total N l = some (Pn.totI l) := Pn.total_eq hN l hl h
end
theorem t_SnowmakingIdle : AllW (fun y => y = some true) [TI.t_SnowSystem, TI.t_i64, TI.t_i64] (l44_SnowmakingIdle 2000) := fun (s : SnowSystem) _ (x : Int) _ (sec : Int) _ => by
  show l44_SnowmakingIdle 2000 s x sec = some true
  have hN : 1000 < 2000 := by omega
  unfold l44_SnowmakingIdle
  rw [alive_ok]
  obtain ⟨b, hb, hS⟩ := small_tot hN s
  simp only [Option.bind_some, Bool.not_true, cond_false, hb]
  cases b with
  | false => rfl
  | true =>
    have h := hS rfl
    obtain ⟨r, hr, hR⟩ := right_spec hN h
    simp only [hr, Bool.not_true, cond_false, Option.bind_some]
    cases h0 : (r != 0) with
    | true => rfl
    | false =>
      have h0 : r = 0 := by simpa using h0
      have ho := hR h0
      have hg := h.guns
      rw [cond_false, search (fun i => (s.Guns.getD i z_Gun).State == 1) (fun _ => true) () s.Guns.length (by omega) (fun i hi => ?_) (by simp)]
      · cases hf : fst (fun i => (s.Guns.getD i z_Gun).State == 1) s.Guns.length with
        | some i => rfl
        | none =>
          have hoff : AllOff s.Guns := fun g hg => by
            obtain ⟨i, hi, rfl⟩ := mem_getD z_Gun hg
            have := fst_none.1 hf i hi
            exact this
          obtain ⟨⟨t, e⟩, ht, hq⟩ := step_idle hN h ho hoff x sec
          simp only [Option.bind_some, sres, Sum.elim_inl, ht]
          rcases hq with (hq | hq) | ⟨hq, h1, h2, h3, h4, h5⟩
          · have hq : e = 2 := hq
            subst hq
            rfl
          · have hq : e = 12 := hq
            subst hq
            rfl
          · have hq : e = 0 := hq
            have h3 : t = _ := h3
            subst hq
            obtain ⟨hpl, _⟩ := (Pn.right_iff s.Ponds).1 ho.ponds
            have hpa := Pn.right_all ho.ponds
            have hcnt := ho.count
            obtain ⟨hrel, htot⟩ := Pn.fill_rel hpl hpa (Pn.rel_refl hpa) (t := sec) (by omega) (by omega)
            have hright := Pn.rel_right ho.ponds hrel
            obtain ⟨hpl', _⟩ := (Pn.right_iff _).1 hright
            have hpa' := Pn.right_all hright
            have b1 := Pn.tot_bound hpl hpa
            have b2 := Pn.tot_bound hpl' hpa'
            have hw0 : 0 ≤ Pn.sumW s.Ponds sec := by
              rw [Pn.sumW_eq hpl hpa (by omega) (by omega)]
              refine (Pn.sum_bound (fun p => Pn.fillI p sec) 1000000000 s.Ponds fun p hp => ?_).1
              have q2 := hpa p hp
              have q3 := Pn.fillI_bound q2 (t := sec) (by omega)
              unfold Pn.PondOk at q2
              omega
            have hi : IntKind.i64.wrap (s.Inflow + Pn.sumW s.Ponds sec) = s.Inflow + Pn.sumW s.Ponds sec := wrap64 (by omega) (by omega)
            subst h3
            have c1 : decide (s.Inflow + Pn.sumW s.Ponds sec < s.Inflow) = false := by rw [decide_eq_false_iff_not]; omega
            have c2 : (IntKind.i64.wrap (Pn.totI (s.Ponds.map (Pn.fillP sec)) - Pn.totI s.Ponds) != IntKind.i64.wrap (s.Inflow + Pn.sumW s.Ponds sec - s.Inflow)) = false := by
              rw [bne_eq_false_iff_eq, htot]
              congr 1
              omega
            simp only [bne_self_eq_false, cond_false, hi, c1, rtotal_eq hN _ hpl hpa, rtotal_eq hN _ hpl' hpa', Option.bind_some, c2]
            have := same_refl hN h
            rw [show SnowSystem.mk s.Ponds s.Pumps s.Pipes s.Kinds s.Guns s.Packs s.Pressure s.Limit s.Time s.Water s.Lost s.Energy s.Inflow = s from rfl, this]
            rfl
      · simp only [dlt hi, dge, Bool.and_self, cond_true, Int.toNat_natCast, wrapN (show i < 9223372036854775807 by omega)]
end Go.Proofs.Ytkhkblihdabnoaa
