/- Snowmaking: the laws SnowmakingLimits and SnowmakingBalance in plain words. No condition. -/
import Derived.Test.YtkhkblihdabnoaaSnod
import Derived.Test.YtkhkblihdabnoaaSno8
namespace Go.Proofs.Ytkhkblihdabnoaa
open Go.Cm Go.Proofs
theorem mI_take {N : Nat} {s : SnowSystem} (h : Small s) (hr : RightOk N s) (i : Nat) : 0 ≤ mI (s.Packs.take i) ∧ mI (s.Packs.take i) ≤ 200000000000 * 30 := by
  have hb := Pn.sum_bound (fun p : RunPack => p.Pack.Machine * p.Area) 200000000000 (s.Packs.take i) fun p hp => by
    have q := pack_mem hr (List.mem_of_mem_take hp)
    unfold PackOk at q
    have k1 : 0 ≤ p.Pack.Machine * p.Area := Int.mul_nonneg (by omega) (by omega)
    have k2 : p.Pack.Machine * p.Area ≤ 20000 * 10000000 := Int.mul_le_mul (by omega) (by omega) (by omega) (by omega)
    omega
  have h1 := h.packs
  have h2 : (s.Packs.take i).length ≤ 30 := by simp; omega
  unfold mI
  omega
theorem mI_step {N : Nat} {s t : SnowSystem} (hk : Kept N s t) (hs : Small s) (hr : RightOk N s) {i : Nat} (hi : i < s.Packs.length) :
    IntKind.i64.wrap (IntKind.i64.wrap ((t.Packs.getD i z_RunPack).Pack.Machine - (s.Packs.getD i z_RunPack).Pack.Machine) * (s.Packs.getD i z_RunPack).Area) = (mI (t.Packs.take (i + 1)) - mI (s.Packs.take (i + 1))) - (mI (t.Packs.take i) - mI (s.Packs.take i)) := by
  have a := Pn.sum_step (fun p : RunPack => p.Pack.Machine * p.Area) s.Packs z_RunPack i hi
  have b := Pn.sum_step (fun p : RunPack => p.Pack.Machine * p.Area) t.Packs z_RunPack i (by rw [hk.packl]; exact hi)
  have q := hk.packs i hi
  have p1 := hr.packs i hi
  have p2 := hk.ok.packs i (by rw [hk.packl]; exact hi)
  unfold PackOk at p1 p2
  have k1 : 0 ≤ ((t.Packs.getD i z_RunPack).Pack.Machine - (s.Packs.getD i z_RunPack).Pack.Machine) * (s.Packs.getD i z_RunPack).Area := Int.mul_nonneg (by omega) (by omega)
  have k2 : ((t.Packs.getD i z_RunPack).Pack.Machine - (s.Packs.getD i z_RunPack).Pack.Machine) * (s.Packs.getD i z_RunPack).Area ≤ 20000 * 10000000 := Int.mul_le_mul (by omega) (by omega) (by omega) (by omega)
  have e : ((t.Packs.getD i z_RunPack).Pack.Machine - (s.Packs.getD i z_RunPack).Pack.Machine) * (s.Packs.getD i z_RunPack).Area = (t.Packs.getD i z_RunPack).Pack.Machine * (t.Packs.getD i z_RunPack).Area - (s.Packs.getD i z_RunPack).Pack.Machine * (s.Packs.getD i z_RunPack).Area := by
    rw [Int.sub_mul, q.2.1]
  rw [wrap64 (z := (t.Packs.getD i z_RunPack).Pack.Machine - (s.Packs.getD i z_RunPack).Pack.Machine) (by omega) (by omega), wrap64 (by omega) (by omega), e]
  unfold mI
  omega
section
variable {N : Nat} (hN : 1000 < N)
include hN
theorem balanced_kept {s t : SnowSystem} (h : Small s) (hr : RightOk N s) (hk : Kept N s t) : snowmaking_Balanced N s t = some true := by
  have h1 := h.packs
  have c1 := hr.count
  have c2 := hk.ok.count
  obtain ⟨hpl, _⟩ := (Pn.right_iff s.Ponds).1 hr.ponds
  have hpa := Pn.right_all hr.ponds
  obtain ⟨hpl', _⟩ := (Pn.right_iff t.Ponds).1 hk.ok.ponds
  have hpa' := Pn.right_all hk.ok.ponds
  have b1 := Pn.tot_bound hpl hpa
  have b2 := Pn.tot_bound hpl' hpa'
  have hsn := hk.snow
  have hpo := hk.pond
  unfold snowmaking_Balanced
  have e0 : ((s.Packs.length : Int) != (t.Packs.length : Int)) = false := by rw [hk.packl, bne_self_eq_false]
  rw [e0, cond_false, wrap64 (z := t.Lost - s.Lost) (by omega) (by omega)]
  refine (bindS (fun i => (t.Lost - s.Lost + (mI (t.Packs.take i) - mI (s.Packs.take i)), (i : Int))) (by simp [mI]) (fun _ => false) (fun _ => false) (t.Lost - s.Lost + (mI t.Packs - mI s.Packs)) s.Packs.length (show s.Packs.length < N by omega) (fun i hi _ => ?_) (fun _ => ?_)).trans ?_
  · have q := hk.packs i hi
    have m1 := mI_take h hr (i + 1)
    have m2 := mI_take hk.sm hk.ok (i + 1)
    have e1 : ((s.Packs.getD i z_RunPack).Run != (t.Packs.getD i z_RunPack).Run) = false := by rw [q.1, bne_self_eq_false]
    have e2 : ((s.Packs.getD i z_RunPack).Area != (t.Packs.getD i z_RunPack).Area) = false := by rw [q.2.1, bne_self_eq_false]
    simp only [dlt hi, dge, dlt (show i < t.Packs.length by rw [hk.packl]; exact hi), Bool.and_self, cond_true, Int.toNat_natCast, e1, e2, cond_false, Option.bind_some, mI_step hk h hr hi, wrapC (show i < 9223372036854775807 by omega)]
    rw [show t.Lost - s.Lost + (mI (t.Packs.take i) - mI (s.Packs.take i)) + (mI (t.Packs.take (i + 1)) - mI (s.Packs.take (i + 1)) - (mI (t.Packs.take i) - mI (s.Packs.take i))) = t.Lost - s.Lost + (mI (t.Packs.take (i + 1)) - mI (s.Packs.take (i + 1))) by omega, wrap64 (by omega) (by omega)]
  · have : t.Packs.take s.Packs.length = t.Packs := by rw [← hk.packl, List.take_length]
    simp only [dnlt, cond_false, List.take_length, this]
  · rw [fst_none.2 fun _ _ => rfl]
    simp only [sres, Sum.elim_inl, Pn.total_eq hN _ hpl hpa, Pn.total_eq hN _ hpl' hpa', Option.bind_some]
    have e1 : (IntKind.i64.wrap (Pn.totI t.Ponds - Pn.totI s.Ponds) == IntKind.i64.wrap (IntKind.i64.wrap (t.Inflow - s.Inflow) - IntKind.i64.wrap (t.Water - s.Water))) = true := by
      rw [wrap64 (z := Pn.totI t.Ponds - Pn.totI s.Ponds) (by omega) (by omega), wrap64 (z := t.Inflow - s.Inflow) (by omega) (by omega), wrap64 (z := t.Water - s.Water) (by omega) (by omega), wrap64 (by omega) (by omega), beq_iff_eq]
      omega
    have e2 : (IntKind.i64.wrap (t.Water - s.Water) == t.Lost - s.Lost + (mI t.Packs - mI s.Packs)) = true := by
      rw [wrap64 (z := t.Water - s.Water) (by omega) (by omega), beq_iff_eq]
      omega
    rw [e1, e2]
    rfl
/-- what both laws begin with -/
theorem law_begin {s : SnowSystem} {l : List Op} {f : SnowSystem → Option Bool} (hf : Small s → RightOk N s → ∀ t, Kept N s t → f t = some true) :
    (((l44_small N s).bind fun (r3 : Bool) => bif !r3 then some true else (snowmaking_Right N s).bind fun (r4 : Int) => bif r4 != (0 : Int) then some true else some (decide ((l.length : Int) > (30 : Int)))).bind fun (r5 : Bool) => bif r5 then some true else (l44_after N s l).bind f) = some true := by
  obtain ⟨b, hb, hS⟩ := small_tot hN s
  rw [hb]
  cases b with
  | false => rfl
  | true =>
    have h := hS rfl
    obtain ⟨r, hr, hR⟩ := right_spec hN h
    simp only [hr, Bool.not_true, cond_false, Option.bind_some]
    cases h0 : (r != 0) with
    | true => rfl
    | false =>
      have h0 : r = 0 := by simpa using h0
      subst h0
      obtain ⟨ho, hl⟩ := right_fwd hN h hr
      rw [cond_false, Option.bind_some]
      cases h5 : decide ((l.length : Int) > 30) with
      | true => rfl
      | false =>
        rw [decide_eq_false_iff_not] at h5
        obtain ⟨t, e, hk⟩ := after_kept hN h ho hl l (by omega)
        rw [cond_false, e, Option.bind_some]
        exact hf h ho t hk
end
theorem t_SnowmakingLimits : AllW (fun y => y = some true) [TI.t_SnowSystem, TI.l_Op] (l44_SnowmakingLimits 2000) := fun (s : SnowSystem) _ (l : List Op) _ => by
  show l44_SnowmakingLimits 2000 s l = some true
  have hN : 1000 < 2000 := by omega
  unfold l44_SnowmakingLimits
  rw [alive_ok]
  simp only [Option.bind_some, Bool.not_true, cond_false]
  refine law_begin hN fun h hr t hk => ?_
  have h1 := h.packs
  have h2 := h.ponds
  have hp := hk.ponds
  rw [right_back hN hk.sm hk.ok hk.lnk]
  simp only [Option.bind_some, hk.guns, hk.packl, hp.1, bne_self_eq_false, cond_false]
  rw [through () s.Ponds.length (by omega) (fun i hi => ?_) (by simp)]
  · rw [Option.bind_some, Sum.elim_inl, through () s.Packs.length (by omega) (fun i hi => ?_) (by simp)]
    · rfl
    · have q := hk.packs i hi
      have e1 : ((t.Packs.getD i z_RunPack).Pack.Natural != (s.Packs.getD i z_RunPack).Pack.Natural) = false := by rw [q.2.2.1, bne_self_eq_false]
      have e2 : decide ((t.Packs.getD i z_RunPack).Pack.Machine < (s.Packs.getD i z_RunPack).Pack.Machine) = false := by rw [decide_eq_false_iff_not]; omega
      simp only [dlt hi, dge, Bool.and_self, cond_true, Int.toNat_natCast, e1, e2, cond_false, Option.bind_some, wrapN (show i < 9223372036854775807 by omega)]
  · have q := hp.2 i hi
    have e1 : ((t.Ponds.getD i z_Pond).ID != (s.Ponds.getD i z_Pond).ID) = false := by rw [q.1, bne_self_eq_false]
    have e2 : decide ((t.Ponds.getD i z_Pond).Volume < (s.Ponds.getD i z_Pond).Least) = false := by rw [decide_eq_false_iff_not]; omega
    have e3 : decide ((t.Ponds.getD i z_Pond).Volume > (s.Ponds.getD i z_Pond).Most) = false := by rw [decide_eq_false_iff_not]; omega
    simp only [dlt hi, dge, Bool.and_self, cond_true, Int.toNat_natCast, e1, e2, e3, cond_false, Option.bind_some, wrapN (show i < 9223372036854775807 by omega)]
theorem t_SnowmakingBalance : AllW (fun y => y = some true) [TI.t_SnowSystem, TI.l_Op] (l44_SnowmakingBalance 2000) := fun (s : SnowSystem) _ (l : List Op) _ => by
  show l44_SnowmakingBalance 2000 s l = some true
  have hN : 1000 < 2000 := by omega
  unfold l44_SnowmakingBalance
  rw [alive_ok]
  simp only [Option.bind_some, Bool.not_true, cond_false]
  refine law_begin hN fun h hr t hk => ?_
  have h1 := h.packs
  have hm := hk.more
  have c1 := hr.count
  have c2 := hk.ok.count
  obtain ⟨hpl, _⟩ := (Pn.right_iff s.Ponds).1 hr.ponds
  have hpa := Pn.right_all hr.ponds
  obtain ⟨hpl', _⟩ := (Pn.right_iff t.Ponds).1 hk.ok.ponds
  have hpa' := Pn.right_all hk.ok.ponds
  have b1 := Pn.tot_bound hpl hpa
  have b2 := Pn.tot_bound hpl' hpa'
  have hsn := hk.snow
  have hpo := hk.pond
  have m1 := mI_take h hr s.Packs.length
  have m2 := mI_take hk.sm hk.ok t.Packs.length
  rw [List.take_length] at m1 m2
  have d1 : decide (t.Energy < s.Energy) = false := by rw [decide_eq_false_iff_not]; omega
  have d2 : decide (t.Water < s.Water) = false := by rw [decide_eq_false_iff_not]; omega
  have d3 : decide (t.Lost < s.Lost) = false := by rw [decide_eq_false_iff_not]; omega
  simp only [hk.packl, bne_self_eq_false, cond_false, balanced_kept hN h hr hk, Option.bind_some, Bool.not_true, d1, d2, d3, rtotal_eq hN _ hpl hpa, rtotal_eq hN _ hpl' hpa']
  refine (bindT (fun i => (mI (t.Packs.take i) - mI (s.Packs.take i), (i : Int))) (by simp [mI]) (mI t.Packs - mI s.Packs) s.Packs.length (show s.Packs.length < 2000 by omega) (fun i hi => ?_) ?_).trans ?_
  · have q1 := mI_take h hr (i + 1)
    have q2 := mI_take hk.sm hk.ok (i + 1)
    simp only [dlt hi, dge, Bool.and_self, cond_true, Int.toNat_natCast, mI_step hk h hr hi, wrapC (show i < 9223372036854775807 by omega)]
    rw [show mI (t.Packs.take i) - mI (s.Packs.take i) + (mI (t.Packs.take (i + 1)) - mI (s.Packs.take (i + 1)) - (mI (t.Packs.take i) - mI (s.Packs.take i))) = mI (t.Packs.take (i + 1)) - mI (s.Packs.take (i + 1)) by omega, wrap64 (by omega) (by omega)]
  · have : t.Packs.take s.Packs.length = t.Packs := by rw [← hk.packl, List.take_length]
    simp only [dnlt, cond_false, List.take_length, this]
  · have e1 : (IntKind.i64.wrap (t.Water - s.Water) == IntKind.i64.wrap (IntKind.i64.wrap (mI t.Packs - mI s.Packs + t.Lost) - s.Lost)) = true := by
      rw [wrap64 (z := t.Water - s.Water) (by omega) (by omega), wrap64 (z := mI t.Packs - mI s.Packs + t.Lost) (by omega) (by omega), wrap64 (by omega) (by omega), beq_iff_eq]
      omega
    have e2 : (IntKind.i64.wrap (Pn.totI t.Ponds - Pn.totI s.Ponds) == IntKind.i64.wrap (IntKind.i64.wrap (t.Inflow - s.Inflow) - IntKind.i64.wrap (t.Water - s.Water))) = true := by
      rw [wrap64 (z := Pn.totI t.Ponds - Pn.totI s.Ponds) (by omega) (by omega), wrap64 (z := t.Inflow - s.Inflow) (by omega) (by omega), wrap64 (z := t.Water - s.Water) (by omega) (by omega), wrap64 (by omega) (by omega), beq_iff_eq]
      omega
    rw [e1, e2]
    rfl
end Go.Proofs.Ytkhkblihdabnoaa
