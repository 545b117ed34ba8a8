/- The guns: the laws GunRights, GunSwitches, GunOutputs, GunParts in plain words. No condition. -/
import Derived.Test.YtenjellgjcofaaaGun2
import Derived.Test.YtenjellgjcofaaaCmp
namespace Go.Proofs.Ytenjellgjcofaaa
open Go.Cm Go.Proofs
theorem t_GunRights : AllW (fun y => y = some true) [TI.t_Park] (l42_GunRights 2000) := fun (p : Park) _ => by
  show l42_GunRights 2000 p = some true
  unfold l42_GunRights
  rw [alive_ok, few_eq (by omega), gright_eq (by omega), rright_eq (by omega)]
  cases fewS p <;> simp

def rightP (p : Park) : Bool := bif fewS p then rightS p.Kinds p.Guns == 0 else false
def becS (g : Gun) (st t least : Int) : Gun × Int :=
  bif decide (t < g.Since) || decide (t > 20000000) then (z_Gun, 11)
  else bif decide (t < IntKind.i64.wrap (g.Since + least)) then (z_Gun, 13)
  else (Gun.mk g.ID g.Node g.Run g.Kind st t g.On g.Off, 0)
def startS (g : Gun) (t : Int) : Gun × Int := bif g.State != 0 then (z_Gun, 10) else becS g 1 t g.Off
def stopS (g : Gun) (t : Int) : Gun × Int := bif g.State != 1 then (z_Gun, 10) else becS g 0 t g.On
def repairS (g : Gun) (t : Int) : Gun × Int := bif g.State != 2 then (z_Gun, 10) else becS g 0 t 0
section
variable {N : Nat}
theorem order_eq (g : Gun) (t : Int) : gun_moment_order N (moment.mk t) g = some (!(decide (t < g.Since) || decide (t > 20000000))) := by
  unfold gun_moment_order
  rw [cond_and, Option.bind_some]
  by_cases h1 : t < g.Since <;> by_cases h2 : t > 20000000 <;> simp [h1, h2] <;> omega
theorem become_eq (g : Gun) (st t least : Int) : r42_become N g st t least = some (becS g st t least) := by
  unfold r42_become becS
  rw [cond_or, Option.bind_some]
  cases (decide (t < g.Since) || decide (t > 20000000)) <;> cases decide (t < IntKind.i64.wrap (g.Since + least)) <;> rfl
theorem rstart_eq (g : Gun) (t : Int) : r42_Start N g t = some (startS g t) := by
  unfold r42_Start startS
  rw [become_eq]
  cases g.State != 0 <;> rfl
theorem rstop_eq (g : Gun) (t : Int) : r42_Stop N g t = some (stopS g t) := by
  unfold r42_Stop stopS
  rw [become_eq]
  cases g.State != 1 <;> rfl
theorem rfail_eq (g : Gun) (t : Int) : r42_Fail N g t = some (becS g 2 t 0) := by
  unfold r42_Fail
  rw [become_eq]
  rfl
theorem rrepair_eq (g : Gun) (t : Int) : r42_Repair N g t = some (repairS g t) := by
  unfold r42_Repair repairS
  rw [become_eq]
  cases g.State != 2 <;> rfl
theorem start_eq (g : Gun) (t : Int) : gun_Start N g t = some (startS g t) := by
  unfold gun_Start startS becS
  rw [order_eq, Option.bind_some]
  cases g.State != 0 <;> cases (decide (t < g.Since) || decide (t > 20000000)) <;> cases decide (t < IntKind.i64.wrap (g.Since + g.Off)) <;> rfl
theorem stop_eq (g : Gun) (t : Int) : gun_Stop N g t = some (stopS g t) := by
  unfold gun_Stop stopS becS
  rw [order_eq, Option.bind_some]
  cases g.State != 1 <;> cases (decide (t < g.Since) || decide (t > 20000000)) <;> cases decide (t < IntKind.i64.wrap (g.Since + g.On)) <;> rfl
theorem bec0 (g : Gun) (st t : Int) (h : inRangeS g = true) : becS g st t 0 = bif decide (t < g.Since) || decide (t > 20000000) then (z_Gun, 11) else (Gun.mk g.ID g.Node g.Run g.Kind st t g.On g.Off, 0) := by
  unfold becS
  have hw : IntKind.i64.wrap (g.Since + 0) = g.Since := by
    simp only [inRangeS, Bool.and_eq_true, decide_eq_true_eq] at h
    rw [wrap64] <;> omega
  rw [hw]
  cases h1 : decide (t < g.Since) <;> cases decide (t > 20000000) <;> rfl
theorem fail_eq (g : Gun) (t : Int) (h : inRangeS g = true) : gun_Fail N g t = some (becS g 2 t 0) := by
  rw [bec0 g 2 t h]
  unfold gun_Fail
  rw [order_eq, Option.bind_some]
  cases (decide (t < g.Since) || decide (t > 20000000)) <;> rfl
theorem repair_eq (g : Gun) (t : Int) (h : inRangeS g = true) : gun_Repair N g t = some (repairS g t) := by
  unfold repairS
  rw [bec0 g 0 t h]
  unfold gun_Repair
  rw [order_eq, Option.bind_some]
  cases g.State != 2 <;> cases (decide (t < g.Since) || decide (t > 20000000)) <;> rfl
end
theorem t_GunSwitches : AllW (fun y => y = some true) [TI.t_Gun, TI.t_i64] (l42_GunSwitches 2000) := fun (g : Gun) _ (t : Int) _ => by
  show l42_GunSwitches 2000 g t = some true
  unfold l42_GunSwitches
  rw [alive_ok, single_eq (by omega)]
  cases hs : singS g with
  | false => rfl
  | true =>
    have hr : inRangeS g = true := by simp only [singS, Bool.and_eq_true] at hs; exact hs.1
    rw [start_eq, rstart_eq, stop_eq, rstop_eq, fail_eq _ _ hr, rfail_eq, repair_eq _ _ hr, rrepair_eq]
    simp only [Option.bind_some, Bool.not_true, cond_false, beq_self_eq_true, Bool.and_self, cond_true]

/-! outputs -/
def outS (k : GunKind) (x : Int) : Int := (atS k.Output x).1
def onB (g : Gun) : Bool := g.State == 1
def drawsS (ks : List GunKind) (l : List Gun) (x : Int) : List Draw := (l.filter onB).map fun g => Draw.mk g.Node (outS (kindOf ks g.Kind) x)
def needsS (ks : List GunKind) (l : List Gun) : List Draw := (l.filter onB).map fun g => Draw.mk g.Node (kindOf ks g.Kind).Pressure
def powI (ks : List GunKind) (l : List Gun) : Int := ((l.filter onB).map fun g => (kindOf ks g.Kind).Power).sum
theorem filt_step (l : List Gun) (i : Nat) (hi : i < l.length) : (l.take (i + 1)).filter onB = (l.take i).filter onB ++ bif onB (l.getD i z_Gun) then [l.getD i z_Gun] else [] := by
  rw [take_getD l i z_Gun hi, List.filter_append]
  generalize l.getD i z_Gun = g
  cases h : onB g <;> simp [h]
theorem filt_len (l : List Gun) (i : Nat) : ((l.take i).filter onB).length ≤ i := Nat.le_trans (List.length_filter_le _ _) (by simp; omega)
section
variable {N : Nat} (hN : 1000 < N)
include hN
theorem gout_eq (k : GunKind) (x : Int) : gun_Output N k x = some (outS k x) := by
  unfold gun_Output outS
  rw [fat_eq hN]; rfl
theorem rout_eq (k : GunKind) (x : Int) : r42_Output N k x = some (outS k x) := by
  unfold r42_Output outS
  rw [rat_eq hN]; rfl
theorem draws_eq (ks : List GunKind) (l : List Gun) (x : Int) (hk : ks.length ≤ 64) (hl : l.length ≤ 64) : gun_Draws N ks l x = some (drawsS ks l x) := by
  unfold gun_Draws
  refine (bindT (fun i => (drawsS ks (l.take i) x, (i : Int))) rfl (drawsS ks l x) l.length (show l.length < N by omega) (fun i hi => ?_) ?_).trans rfl
  · have hlen := filt_len l i
    simp only [dlt hi, dge, Bool.and_self, cond_true, Int.toNat_natCast, gkind_eq hN ks _ hk, gout_eq hN, Option.bind_some, wrapC (show i < 9223372036854775807 by omega)]
    have hb : decide (((drawsS ks (l.take i) x).length + [Draw.mk (l.getD i z_Gun).Node (outS (kindOf ks (l.getD i z_Gun).Kind) x)].length) * 16 ≤ 140737488355328) = true := by
      simp only [drawsS, List.length_map, List.length_singleton, decide_eq_true_eq]; omega
    rw [hb]
    have hd : drawsS ks (l.take (i + 1)) x = drawsS ks (l.take i) x ++ bif onB (l.getD i z_Gun) then [Draw.mk (l.getD i z_Gun).Node (outS (kindOf ks (l.getD i z_Gun).Kind) x)] else [] := by
      unfold drawsS
      rw [filt_step l i hi, List.map_append]
      cases onB (l.getD i z_Gun) <;> rfl
    rw [hd]
    have ho : ((l.getD i z_Gun).State == 1) = onB (l.getD i z_Gun) := rfl
    rw [ho]
    cases onB (l.getD i z_Gun)
    · simp
    · rfl
  · simp only [dnlt, cond_false, List.take_length]
theorem rdraws_eq (ks : List GunKind) (l : List Gun) (x : Int) (hk : ks.length ≤ 64) (hl : l.length ≤ 64) : r42_Draws N ks l x = some (drawsS ks l x) := by
  unfold r42_Draws
  refine (bindT (fun i => (drawsS ks (l.take i) x, (i : Int))) rfl (drawsS ks l x) l.length (show l.length < N by omega) (fun i hi => ?_) ?_).trans rfl
  · have hlen := filt_len l i
    simp only [dlt hi, dge, Bool.and_self, cond_true, Int.toNat_natCast, find_eq hN ks _ hk, rout_eq hN, Option.bind_some, wrapC (show i < 9223372036854775807 by omega)]
    have hb : decide (((drawsS ks (l.take i) x).length + [Draw.mk (l.getD i z_Gun).Node (outS (kindOf ks (l.getD i z_Gun).Kind) x)].length) * 16 ≤ 140737488355328) = true := by
      simp only [drawsS, List.length_map, List.length_singleton, decide_eq_true_eq]; omega
    rw [hb]
    have hd : drawsS ks (l.take (i + 1)) x = drawsS ks (l.take i) x ++ bif onB (l.getD i z_Gun) then [Draw.mk (l.getD i z_Gun).Node (outS (kindOf ks (l.getD i z_Gun).Kind) x)] else [] := by
      unfold drawsS
      rw [filt_step l i hi, List.map_append]
      cases onB (l.getD i z_Gun) <;> rfl
    rw [hd]
    have ho : ((l.getD i z_Gun).State == 1) = onB (l.getD i z_Gun) := rfl
    rw [ho]
    cases onB (l.getD i z_Gun)
    · simp
    · rfl
  · simp only [dnlt, cond_false, List.take_length]
theorem needs_eq (ks : List GunKind) (l : List Gun) (hk : ks.length ≤ 64) (hl : l.length ≤ 64) : gun_Needs N ks l = some (needsS ks l) := by
  unfold gun_Needs
  refine (bindT (fun i => (needsS ks (l.take i), (i : Int))) rfl (needsS ks l) l.length (show l.length < N by omega) (fun i hi => ?_) ?_).trans rfl
  · have hlen := filt_len l i
    simp only [dlt hi, dge, Bool.and_self, cond_true, Int.toNat_natCast, gkind_eq hN ks _ hk, Option.bind_some, wrapC (show i < 9223372036854775807 by omega)]
    have hb : decide (((needsS ks (l.take i)).length + [Draw.mk (l.getD i z_Gun).Node (kindOf ks (l.getD i z_Gun).Kind).Pressure].length) * 16 ≤ 140737488355328) = true := by
      simp only [needsS, List.length_map, List.length_singleton, decide_eq_true_eq]; omega
    rw [hb]
    have hd : needsS ks (l.take (i + 1)) = needsS ks (l.take i) ++ bif onB (l.getD i z_Gun) then [Draw.mk (l.getD i z_Gun).Node (kindOf ks (l.getD i z_Gun).Kind).Pressure] else [] := by
      unfold needsS
      rw [filt_step l i hi, List.map_append]
      cases onB (l.getD i z_Gun) <;> rfl
    rw [hd]
    have ho : ((l.getD i z_Gun).State == 1) = onB (l.getD i z_Gun) := rfl
    rw [ho]
    cases onB (l.getD i z_Gun)
    · simp
    · rfl
  · simp only [dnlt, cond_false, List.take_length]
theorem rneeds_eq (ks : List GunKind) (l : List Gun) (hk : ks.length ≤ 64) (hl : l.length ≤ 64) : r42_Needs N ks l = some (needsS ks l) := by
  unfold r42_Needs
  refine (bindT (fun i => (needsS ks (l.take i), (i : Int))) rfl (needsS ks l) l.length (show l.length < N by omega) (fun i hi => ?_) ?_).trans rfl
  · have hlen := filt_len l i
    simp only [dlt hi, dge, Bool.and_self, cond_true, Int.toNat_natCast, find_eq hN ks _ hk, Option.bind_some, wrapC (show i < 9223372036854775807 by omega)]
    have hb : decide (((needsS ks (l.take i)).length + [Draw.mk (l.getD i z_Gun).Node (kindOf ks (l.getD i z_Gun).Kind).Pressure].length) * 16 ≤ 140737488355328) = true := by
      simp only [needsS, List.length_map, List.length_singleton, decide_eq_true_eq]; omega
    rw [hb]
    have hd : needsS ks (l.take (i + 1)) = needsS ks (l.take i) ++ bif onB (l.getD i z_Gun) then [Draw.mk (l.getD i z_Gun).Node (kindOf ks (l.getD i z_Gun).Kind).Pressure] else [] := by
      unfold needsS
      rw [filt_step l i hi, List.map_append]
      cases onB (l.getD i z_Gun) <;> rfl
    rw [hd]
    have ho : ((l.getD i z_Gun).State == 1) = onB (l.getD i z_Gun) := rfl
    rw [ho]
    cases onB (l.getD i z_Gun)
    · simp
    · rfl
  · simp only [dnlt, cond_false, List.take_length]
omit hN in
theorem kindOf_pow {ks : List GunKind} (h : ∀ i, i < ks.length → errK ks i = 0) (id : Int) : 0 ≤ (kindOf ks id).Power ∧ (kindOf ks id).Power ≤ 1000000 := by
  unfold kindOf
  cases hf : fst (fun j => (ks.getD j z_GunKind).ID == id) ks.length with
  | none => exact ⟨Int.le_refl 0, show (0 : Int) ≤ 1000000 by decide⟩
  | some i =>
    have := h i (fst_some.1 hf).1
    unfold errK at this
    cases hr : rangeK (ks.getD i z_GunKind) with
    | true => rw [hr] at this; cases this
    | false =>
      simp only [rangeK, Bool.or_eq_false_iff, decide_eq_false_iff_not] at hr
      simp only
      omega
omit hN in
theorem pow_step (ks : List GunKind) (l : List Gun) (i : Nat) (hi : i < l.length) : powI ks (l.take (i + 1)) = powI ks (l.take i) + bif onB (l.getD i z_Gun) then (kindOf ks (l.getD i z_Gun).Kind).Power else 0 := by
  unfold powI
  rw [filt_step l i hi, List.map_append, List.sum_append]
  cases onB (l.getD i z_Gun) <;> simp
omit hN in
theorem pow_bound {ks : List GunKind} (h : ∀ i, i < ks.length → errK ks i = 0) (l : List Gun) : 0 ≤ powI ks l ∧ powI ks l ≤ 1000000 * l.length := by
  unfold powI
  induction l with
  | nil => simp
  | cons g l ih =>
    have hp := kindOf_pow h g.Kind
    cases hg : onB g
    · rw [List.filter_cons_of_neg (by simp [hg])]
      simp only [List.length_cons]; omega
    · rw [List.filter_cons_of_pos (by simp [hg])]
      simp only [List.length_cons, List.map_cons, List.sum_cons]; omega
theorem power_eq (ks : List GunKind) (l : List Gun) (hk : ks.length ≤ 64) (hl : l.length ≤ 64) (h : ∀ i, i < ks.length → errK ks i = 0) : gun_Power N ks l = some (powI ks l) := by
  unfold gun_Power
  refine (bindT (fun i => (powI ks (l.take i), (i : Int))) rfl (powI ks l) l.length (show l.length < N by omega) (fun i hi => ?_) ?_).trans rfl
  · simp only [dlt hi, dge, Bool.and_self, cond_true, Int.toNat_natCast, gkind_eq hN ks _ hk, Option.bind_some, wrapC (show i < 9223372036854775807 by omega)]
    have hb := pow_bound h (l.take i)
    have hp := kindOf_pow h (l.getD i z_Gun).Kind
    have hlen : (l.take i).length ≤ 64 := by simp; omega
    rw [pow_step ks l i hi, wrap64 (by omega) (by omega)]
    have ho : ((l.getD i z_Gun).State == 1) = onB (l.getD i z_Gun) := rfl
    rw [ho]
    cases onB (l.getD i z_Gun)
    · simp
    · rfl
  · simp only [dnlt, cond_false, List.take_length]
theorem rpower_eq (ks : List GunKind) (l : List Gun) (hk : ks.length ≤ 64) (hl : l.length ≤ 64) (h : ∀ i, i < ks.length → errK ks i = 0) : r42_Power N ks l = some (powI ks l) := by
  unfold r42_Power
  refine (bindT (fun i => (powI ks (l.take i), (i : Int))) rfl (powI ks l) l.length (show l.length < N by omega) (fun i hi => ?_) ?_).trans rfl
  · simp only [dlt hi, dge, Bool.and_self, cond_true, Int.toNat_natCast, find_eq hN ks _ hk, Option.bind_some, wrapC (show i < 9223372036854775807 by omega)]
    have hb := pow_bound h (l.take i)
    have hp := kindOf_pow h (l.getD i z_Gun).Kind
    have hlen : (l.take i).length ≤ 64 := by simp; omega
    rw [pow_step ks l i hi, wrap64 (by omega) (by omega)]
    have ho : ((l.getD i z_Gun).State == 1) = onB (l.getD i z_Gun) := rfl
    rw [ho]
    cases onB (l.getD i z_Gun)
    · simp
    · rfl
  · simp only [dnlt, cond_false, List.take_length]
theorem same_eq (a : List Draw) (hl : a.length ≤ 900) : r42_Same N a a = some true := by
  unfold r42_Same
  rw [show ((a.length : Int) != (a.length : Int)) = false by simp, cond_false, through () a.length (by omega) (fun i hi => ?_) (by simp)]
  · rfl
  · simp only [dlt hi, dge, Bool.and_self, cond_true, beq_self_eq_true, Bool.not_true, cond_false, wrapN (show i < 9223372036854775807 by omega)]
theorem right_eq (p : Park) : l42_right N p = some (rightP p) := by
  unfold l42_right rightP
  rw [few_eq hN, rright_eq hN]
  cases fewS p <;> rfl
end
theorem right_zero {ks : List GunKind} {l : List Gun} (h : rightS ks l = 0) : ks.length ≤ 64 ∧ l.length ≤ 64 ∧ (∀ i, i < ks.length → errK ks i = 0) ∧ ∀ i, i < l.length → errG ks l i = 0 := by
  unfold rightS at h
  cases hq : (decide ((ks.length : Int) > 64) || decide ((l.length : Int) > 64)) with
  | true => rw [hq] at h; cases h
  | false =>
    rw [hq, cond_false] at h
    have hl : ks.length ≤ 64 ∧ l.length ≤ 64 := by simp at hq; omega
    split at h
    · rename_i i hf
      have := (fst_some.1 hf).2.1
      simp [h] at this
    · rename_i hf
      split at h
      · rename_i i hg
        have := (fst_some.1 hg).2.1
        simp [h] at this
      · rename_i hg
        refine ⟨hl.1, hl.2, fun i hi => ?_, fun i hi => ?_⟩
        · simpa using fst_none.1 hf i hi
        · simpa using fst_none.1 hg i hi
theorem rightP_spec {p : Park} (h : rightP p = true) : rightS p.Kinds p.Guns = 0 := by
  unfold rightP at h
  cases hf : fewS p with
  | false => rw [hf] at h; cases h
  | true => rw [hf] at h; simpa using h
theorem draws_len (ks : List GunKind) (l : List Gun) (x : Int) : (drawsS ks l x).length ≤ l.length := by unfold drawsS; rw [List.length_map]; exact List.length_filter_le _ _
theorem needs_len (ks : List GunKind) (l : List Gun) : (needsS ks l).length ≤ l.length := by unfold needsS; rw [List.length_map]; exact List.length_filter_le _ _
theorem t_GunOutputs : AllW (fun y => y = some true) [TI.t_Park, TI.t_i64] (l42_GunOutputs 2000) := fun (p : Park) _ (x : Int) _ => by
  show l42_GunOutputs 2000 p x = some true
  unfold l42_GunOutputs
  rw [alive_ok, right_eq (by omega)]
  cases hr : rightP p with
  | false => rfl
  | true =>
    obtain ⟨hk, hl, hK, _⟩ := right_zero (rightP_spec hr)
    simp only [Option.bind_some, Bool.not_true, cond_false]
    rw [through () p.Kinds.length (by omega) (fun i hi => ?_) (by simp)]
    · have h1 := draws_len p.Kinds p.Guns x
      have h2 := needs_len p.Kinds p.Guns
      simp only [Option.bind_some, Sum.elim_inl, draws_eq (show 1000 < 2000 by omega) _ _ _ hk hl, rdraws_eq (show 1000 < 2000 by omega) _ _ _ hk hl, needs_eq (show 1000 < 2000 by omega) _ _ hk hl, rneeds_eq (show 1000 < 2000 by omega) _ _ hk hl,
        power_eq (show 1000 < 2000 by omega) _ _ hk hl hK, rpower_eq (show 1000 < 2000 by omega) _ _ hk hl hK, same_eq (show 1000 < 2000 by omega) _ (show (drawsS p.Kinds p.Guns x).length ≤ 900 by omega), same_eq (show 1000 < 2000 by omega) _ (show (needsS p.Kinds p.Guns).length ≤ 900 by omega), cond_true, beq_self_eq_true]
    · simp only [dlt hi, dge, Bool.and_self, cond_true, Int.toNat_natCast, gout_eq (show 1000 < 2000 by omega), rout_eq (show 1000 < 2000 by omega), Option.bind_some, bne_self_eq_false, cond_false, wrapN (show i < 9223372036854775807 by omega)]
theorem draws_app (ks : List GunKind) (a b : List Gun) (x : Int) : drawsS ks (a ++ b) x = drawsS ks a x ++ drawsS ks b x := by simp [drawsS]
theorem needs_app (ks : List GunKind) (a b : List Gun) : needsS ks (a ++ b) = needsS ks a ++ needsS ks b := by simp [needsS]
theorem pow_app (ks : List GunKind) (a b : List Gun) : powI ks (a ++ b) = powI ks a + powI ks b := by simp [powI]
theorem t_GunParts : AllW (fun y => y = some true) [TI.t_Park, TI.t_i64, TI.t_i64] (l42_GunParts 2000) := fun (p : Park) _ (a : Int) _ (x : Int) _ => by
  show l42_GunParts 2000 p a x = some true
  unfold l42_GunParts
  rw [alive_ok, right_eq (by omega)]
  cases hr : rightP p with
  | false => rfl
  | true =>
    obtain ⟨hk, hl, hK, _⟩ := right_zero (rightP_spec hr)
    simp only [Option.bind_some, Bool.not_true, cond_false, cond_or]
    cases hq : (decide (a < 0) || decide (a > (p.Guns.length : Int))) with
    | true => rfl
    | false =>
      have ha : 0 ≤ a ∧ a ≤ (p.Guns.length : Int) := by simp at hq; omega
      have e1 : decide (0 ≤ a) = true := by simp [ha.1]
      have e2 : decide (a ≤ (p.Guns.length : Int)) = true := by simp [ha.2]
      have h1 := draws_len p.Kinds (p.Guns.take a.toNat) x
      have h2 := needs_len p.Kinds (p.Guns.take a.toNat)
      have h3 := draws_len p.Kinds (p.Guns.drop a.toNat) x
      have h4 := needs_len p.Kinds (p.Guns.drop a.toNat)
      have h5 := draws_len p.Kinds p.Guns x
      have h6 := needs_len p.Kinds p.Guns
      have l1 : (p.Guns.take a.toNat).length ≤ 64 := by simp; omega
      have l2 : (p.Guns.drop a.toNat).length ≤ 64 := by simp; omega
      have b1 : decide ((0 + (drawsS p.Kinds (p.Guns.take a.toNat) x).length) * 16 ≤ 140737488355328) = true := by simp only [decide_eq_true_eq]; omega
      have b2 : decide (((drawsS p.Kinds (p.Guns.take a.toNat) x).length + (drawsS p.Kinds (p.Guns.drop a.toNat) x).length) * 16 ≤ 140737488355328) = true := by simp only [decide_eq_true_eq]; omega
      have b3 : decide ((0 + (needsS p.Kinds (p.Guns.take a.toNat)).length) * 16 ≤ 140737488355328) = true := by simp only [decide_eq_true_eq]; omega
      have b4 : decide (((needsS p.Kinds (p.Guns.take a.toNat)).length + (needsS p.Kinds (p.Guns.drop a.toNat)).length) * 16 ≤ 140737488355328) = true := by simp only [decide_eq_true_eq]; omega
      have p1 := pow_bound hK (p.Guns.take a.toNat)
      have p2 := pow_bound hK (p.Guns.drop a.toNat)
      have d1 : drawsS p.Kinds (p.Guns.take a.toNat) x ++ drawsS p.Kinds (p.Guns.drop a.toNat) x = drawsS p.Kinds p.Guns x := by rw [← draws_app, List.take_append_drop]
      have d2 : needsS p.Kinds (p.Guns.take a.toNat) ++ needsS p.Kinds (p.Guns.drop a.toNat) = needsS p.Kinds p.Guns := by rw [← needs_app, List.take_append_drop]
      have d3 : IntKind.i64.wrap (powI p.Kinds (p.Guns.take a.toNat) + powI p.Kinds (p.Guns.drop a.toNat)) = powI p.Kinds p.Guns := by rw [wrap64 (by omega) (by omega), ← pow_app, List.take_append_drop]
      simp only [cond_false, e1, e2, Bool.and_self, cond_true, draws_eq (show 1000 < 2000 by omega) _ _ _ hk hl, needs_eq (show 1000 < 2000 by omega) _ _ hk hl, draws_eq (show 1000 < 2000 by omega) _ _ _ hk l1, needs_eq (show 1000 < 2000 by omega) _ _ hk l1,
        draws_eq (show 1000 < 2000 by omega) _ _ _ hk l2, needs_eq (show 1000 < 2000 by omega) _ _ hk l2, power_eq (show 1000 < 2000 by omega) _ _ hk hl hK, power_eq (show 1000 < 2000 by omega) _ _ hk l1 hK, power_eq (show 1000 < 2000 by omega) _ _ hk l2 hK, Option.bind_some, List.nil_append,
        b1, b2, b3, b4, d1, d2, d3, same_eq (show 1000 < 2000 by omega) _ (show (drawsS p.Kinds p.Guns x).length ≤ 900 by omega), same_eq (show 1000 < 2000 by omega) _ (show (needsS p.Kinds p.Guns).length ≤ 900 by omega), beq_self_eq_true]
      rfl
end Go.Proofs.Ytenjellgjcofaaa
