/- The guns: Right, in plain words. No condition. -/
import Derived.Test.YtenjellgjcofaaaGun1
namespace Go.Proofs.Ytenjellgjcofaaa
open Go.Cm Go.Proofs
def seenFK (ks : List GunKind) (i : Nat) : Int → Option Bool := fun u => bif seenK ks i u then some true else none
def seenFG (l : List Gun) (i : Nat) : Int → Option Bool := fun u => bif seenG l i u then some true else none
theorem seenFK_get (ks : List GunKind) (i : Nat) (u : Int) : (seenFK ks i u).getD false = seenK ks i u := by unfold seenFK; cases seenK ks i u <;> rfl
theorem seenFG_get (l : List Gun) (i : Nat) (u : Int) : (seenFG l i u).getD false = seenG l i u := by unfold seenFG; cases seenG l i u <;> rfl
theorem seenFK_step (ks : List GunKind) (i : Nat) : (fun u : Int => bif u == (ks.getD i z_GunKind).ID then some true else seenFK ks i u) = seenFK ks (i + 1) := by
  funext u
  have h : seenK ks (i + 1) u = (seenK ks i u || ((ks.getD i z_GunKind).ID == u)) := fst_succ _ _
  have h2 : (u == (ks.getD i z_GunKind).ID) = ((ks.getD i z_GunKind).ID == u) := BEq.comm
  unfold seenFK
  rw [h, h2]
  cases seenK ks i u <;> cases (ks.getD i z_GunKind).ID == u <;> rfl
theorem seenFG_step (l : List Gun) (i : Nat) : (fun u : Int => bif u == (l.getD i z_Gun).ID then some true else seenFG l i u) = seenFG l (i + 1) := by
  funext u
  have h : seenG l (i + 1) u = (seenG l i u || ((l.getD i z_Gun).ID == u)) := fst_succ _ _
  have h2 : (u == (l.getD i z_Gun).ID) = ((l.getD i z_Gun).ID == u) := BEq.comm
  unfold seenFG
  rw [h, h2]
  cases seenG l i u <;> cases (l.getD i z_Gun).ID == u <;> rfl
section
variable {N : Nat} (hN : 1000 < N)
include hN
theorem inRange_eq (g : Gun) : gun_inRange N g = some (inRangeS g) := by
  unfold gun_inRange
  have hs : inRangeS g = ((fst (fun i => decide ([g.ID, g.Node, g.Run].getD i 0 < 1) || decide ([g.ID, g.Node, g.Run].getD i 0 > 9999)) 3).isNone && ((fst (fun i => decide ([g.On, g.Off].getD i 0 < 0) || decide ([g.On, g.Off].getD i 0 > 86400)) 2).isNone &&
      (decide (g.State ≥ 0) && (decide (g.State ≤ 2) && (decide (g.Since ≥ 0) && decide (g.Since ≤ 20000000)))))) := by
    rw [fst_three, fst_two]
    simp only [inRangeS, Bool.and_assoc]
    rfl
  rw [hs, search (fun i => decide ([g.ID, g.Node, g.Run].getD i 0 < 1) || decide ([g.ID, g.Node, g.Run].getD i 0 > 9999)) (fun _ => false) () 3 (by omega) (fun i hi => ?_) (by simp)]
  · cases fst (fun i => decide ([g.ID, g.Node, g.Run].getD i 0 < 1) || decide ([g.ID, g.Node, g.Run].getD i 0 > 9999)) 3 with
    | some i => rfl
    | none =>
      simp only [Option.bind_some, sres, Sum.elim_inl, Option.isNone_none, Bool.true_and]
      rw [search (fun i => decide ([g.On, g.Off].getD i 0 < 0) || decide ([g.On, g.Off].getD i 0 > 86400)) (fun _ => false) () 2 (by omega) (fun i hi => ?_) (by simp)]
      · cases fst (fun i => decide ([g.On, g.Off].getD i 0 < 0) || decide ([g.On, g.Off].getD i 0 > 86400)) 2 with
        | some i => rfl
        | none => simp only [Option.bind_some, sres, Sum.elim_inl, Option.isNone_none, Bool.true_and, cond_and]
      · have h1 : decide ((i : Int) < 2) = true := by rw [decide_eq_true_eq]; omega
        simp only [h1, dge, Bool.and_self, cond_true, Int.toNat_natCast, cond_or, Option.bind_some, wrapN (show i < 9223372036854775807 by omega)]
  · have h1 : decide ((i : Int) < 3) = true := by rw [decide_eq_true_eq]; omega
    simp only [h1, dge, Bool.and_self, cond_true, Int.toNat_natCast, cond_or, Option.bind_some, wrapN (show i < 9223372036854775807 by omega)]
theorem gright_eq (ks : List GunKind) (l : List Gun) : gun_Right N ks l = some (rightS ks l) := by
  unfold gun_Right rightS
  rw [cond_or, Option.bind_some]
  cases hq : (decide ((ks.length : Int) > 64) || decide ((l.length : Int) > 64)) with
  | true => rfl
  | false =>
    have hl : ks.length ≤ 64 ∧ l.length ≤ 64 := by simp at hq; omega
    rw [cond_false]
    refine (bindS (fun i => ((i : Int), seenFK ks i)) rfl (fun i => errK ks i != 0) (fun i => (errK ks i, bif errK ks i == 1 then seenFK ks (i + 1) else seenFK ks i)) (seenFK ks ks.length) ks.length (show ks.length < N by omega) (fun i hi _ => ?_) (fun _ => ?_)).trans ?_
    · simp only [dlt hi, dge, Bool.and_self, cond_true, Int.toNat_natCast, cond_or, Option.bind_some, seenFK_get, falling_eq hN, wrapC (show i < 9223372036854775807 by omega), seenFK_step]
      have hr : (decide ((ks.getD i z_GunKind).ID < 1) || (decide ((ks.getD i z_GunKind).ID > 9999) || (decide ((ks.getD i z_GunKind).Power < 0) || (decide ((ks.getD i z_GunKind).Power > 1000000) || (decide ((ks.getD i z_GunKind).Pressure < 0) || decide ((ks.getD i z_GunKind).Pressure > 1000000)))))) = rangeK (ks.getD i z_GunKind) := rfl
      rw [hr]
      unfold errK
      cases rangeK (ks.getD i z_GunKind) <;> cases seenK ks i (ks.getD i z_GunKind).ID <;> cases fallS (ks.getD i z_GunKind).Output <;> rfl
    · simp only [dnlt, cond_false]
    · cases hf : fst (fun i => errK ks i != 0) ks.length with
      | some i => rfl
      | none =>
        simp only [sres, Sum.elim_inl, cond_false]
        refine (bindS (fun i => ((i : Int), seenFG l i)) rfl (fun i => errG ks l i != 0) (fun i => (errG ks l i, bif errG ks l i == 8 then seenFG l (i + 1) else seenFG l i)) (seenFG l l.length) l.length (show l.length < N by omega) (fun i hi _ => ?_) (fun _ => ?_)).trans ?_
        · simp only [dlt hi, dge, Bool.and_self, cond_true, Int.toNat_natCast, Option.bind_some, seenFK_get, seenFG_get, inRange_eq hN, wrapC (show i < 9223372036854775807 by omega), seenFG_step]
          unfold errG
          cases inRangeS (l.getD i z_Gun) <;> cases seenG l i (l.getD i z_Gun).ID <;> cases seenK ks ks.length (l.getD i z_Gun).Kind <;> rfl
        · simp only [dnlt, cond_false]
        · cases fst (fun i => errG ks l i != 0) l.length <;> rfl
theorem gkind_eq (ks : List GunKind) (id : Int) (hl : ks.length ≤ 64) : gun_kind N ks id = some (kindOf ks id) := by
  unfold gun_kind kindOf
  refine (bindS (fun i => ((i : Int), z_GunKind)) rfl (fun i => (ks.getD i z_GunKind).ID == id) (fun i => ks.getD i z_GunKind) z_GunKind ks.length (show ks.length < N by omega) (fun i hi _ => ?_) (fun _ => ?_)).trans ?_
  · simp only [dlt hi, dge, Bool.and_self, cond_true, Int.toNat_natCast, wrapC (show i < 9223372036854775807 by omega)]
  · simp only [dnlt, cond_false]
  · cases fst _ _ <;> rfl
theorem find_eq (ks : List GunKind) (id : Int) (hl : ks.length ≤ 64) : r42_find N ks id = some (kindOf ks id, seenK ks ks.length id) := by
  unfold r42_find kindOf seenK
  refine (bindS (fun i => ((i : Int), z_GunKind)) rfl (fun i => (ks.getD i z_GunKind).ID == id) (fun i => (true, ks.getD i z_GunKind)) z_GunKind ks.length (show ks.length < N by omega) (fun i hi _ => ?_) (fun _ => ?_)).trans ?_
  · simp only [dlt hi, dge, Bool.and_self, cond_true, Int.toNat_natCast, wrapC (show i < 9223372036854775807 by omega)]
  · simp only [dnlt, cond_false]
  · cases fst _ _ <;> rfl
theorem rkind_eq (ks : List GunKind) (hl : ks.length ≤ 64) (i : Nat) (hi : i < ks.length) : r42_kind N ks i = some (errK ks i) := by
  unfold r42_kind
  simp only [dlt hi, dge, Bool.and_self, cond_true, Int.toNat_natCast, cond_or, Option.bind_some]
  have hr : (decide ((ks.getD i z_GunKind).ID < 1) || (decide ((ks.getD i z_GunKind).ID > 9999) || (decide ((ks.getD i z_GunKind).Power < 0) || (decide ((ks.getD i z_GunKind).Power > 1000000) || (decide ((ks.getD i z_GunKind).Pressure < 0) || decide ((ks.getD i z_GunKind).Pressure > 1000000)))))) = rangeK (ks.getD i z_GunKind) := rfl
  rw [hr]
  unfold errK
  cases rangeK (ks.getD i z_GunKind) with
  | true => rfl
  | false =>
    have hsk : seenK ks i (ks.getD i z_GunKind).ID = (fst (fun j => (ks.getD j z_GunKind).ID == (ks.getD i z_GunKind).ID) i).isSome := rfl
    simp only [cond_false]
    rw [hsk, search (fun j => (ks.getD j z_GunKind).ID == (ks.getD i z_GunKind).ID) (fun _ => (7 : Int)) () i (by omega) (fun j hj => ?_) (by simp)]
    · cases fst (fun j => (ks.getD j z_GunKind).ID == (ks.getD i z_GunKind).ID) i with
      | some j => rfl
      | none =>
        simp only [Option.bind_some, sres, Sum.elim_inl, Option.isSome_none, cond_false, rat_eq hN, at_ok, fallS]
        obtain ⟨o, ho⟩ : ∃ o, (ks.getD i z_GunKind).Output = o := ⟨_, rfl⟩
        simp only [ho]
        cases hp : ptsS o with
        | false => rfl
        | true =>
          obtain ⟨l1, l2, _⟩ := pts_spec hp
          rw [Bool.not_true, cond_false, search (badY o) (fun _ => (1 : Int)) () o.length (by omega) (fun j hj => ?_) (by simp)]
          · cases fst (badY o) o.length <;> rfl
          · simp only [dlt hj, dge, Bool.and_self, cond_true, Int.toNat_natCast, wrapN (show j < 9223372036854775807 by omega)]
            unfold badY
            cases j with
            | zero =>
              have h1 : decide (((0 : Nat) : Int) > 0) = false := by simp
              simp only [h1, cond_false, Nat.lt_irrefl, decide_false, Bool.false_and, Bool.or_false, cond_or, Option.bind_some]
            | succ k =>
              have h1 : decide (((k + 1 : Nat) : Int) > 0) = true := by simp
              simp only [h1, cond_true, wrapS (show k < 9223372036854775807 by omega), dge, dlt (show k < o.length by omega), Bool.and_self, Int.toNat_natCast, Nat.add_sub_cancel, Nat.zero_lt_succ, decide_true, Bool.true_and, cond_or, Option.bind_some]
    · simp only [dlt hj, dge, dlt (show j < ks.length by omega), Bool.and_self, cond_true, Int.toNat_natCast, wrapN (show j < 9223372036854775807 by omega)]
omit hN in
theorem id_eq (x : Int) : r42_id N x = some (!(decide (x < 1) || decide (x > 9999))) := by
  unfold r42_id
  rw [cond_and, Option.bind_some]
  by_cases h1 : x < 1 <;> by_cases h2 : x > 9999 <;> simp [h1, h2] <;> omega
omit hN in
theorem day_eq (x : Int) : r42_day N x = some (!(decide (x < 0) || decide (x > 86400))) := by
  unfold r42_day
  rw [cond_and, Option.bind_some]
  by_cases h1 : x < 0 <;> by_cases h2 : x > 86400 <;> simp [h1, h2] <;> omega
theorem rright_eq (ks : List GunKind) (l : List Gun) : r42_Right N ks l = some (rightS ks l) := by
  unfold r42_Right rightS
  rw [cond_or, Option.bind_some]
  cases hq : (decide ((ks.length : Int) > 64) || decide ((l.length : Int) > 64)) with
  | true => rfl
  | false =>
    have hl : ks.length ≤ 64 ∧ l.length ≤ 64 := by simp at hq; omega
    rw [cond_false, search (fun i => errK ks i != 0) (fun i => errK ks i) () ks.length (by omega) (fun i hi => ?_) (by simp)]
    · cases hf : fst (fun i => errK ks i != 0) ks.length with
      | some i => rfl
      | none =>
        simp only [Option.bind_some, sres, Sum.elim_inl, cond_false]
        rw [search (fun i => errG ks l i != 0) (fun i => errG ks l i) () l.length (by omega) (fun i hi => ?_) (by simp)]
        · cases fst (fun i => errG ks l i != 0) l.length <;> rfl
        · simp only [dlt hi, dge, Bool.and_self, cond_true, Int.toNat_natCast, id_eq, day_eq, Option.bind_some, cond_or, Bool.not_not, wrapN (show i < 9223372036854775807 by omega), find_eq hN ks _ hl.1]
          have hin : ∀ g : Gun, (decide (g.ID < 1) || decide (g.ID > 9999) || (decide (g.Node < 1) || decide (g.Node > 9999) || (decide (g.Run < 1) || decide (g.Run > 9999) || (decide (g.State < 0) || (decide (g.State > 2) || (decide (g.Since < 0) || (decide (g.Since > 20000000) || (decide (g.On < 0) || decide (g.On > 86400) || (decide (g.Off < 0) || decide (g.Off > 86400)))))))))) = !inRangeS g := by
            intro g
            unfold inRangeS
            rw [Bool.eq_iff_iff]
            simp only [Bool.or_eq_true, Bool.not_eq_true', Bool.and_eq_false_iff, Bool.not_eq_false', decide_eq_true_eq, decide_eq_false_iff_not]
            omega
          rw [hin]
          unfold errG
          cases inRangeS (l.getD i z_Gun) with
          | false => rfl
          | true =>
            have hsg : seenG l i (l.getD i z_Gun).ID = (fst (fun j => (l.getD j z_Gun).ID == (l.getD i z_Gun).ID) i).isSome := rfl
            simp only [Bool.not_true, cond_false]
            rw [hsg, search (fun j => (l.getD j z_Gun).ID == (l.getD i z_Gun).ID) (fun _ => (7 : Int)) () i (by omega) (fun j hj => ?_) (by simp)]
            · cases fst (fun j => (l.getD j z_Gun).ID == (l.getD i z_Gun).ID) i with
              | some j => rfl
              | none =>
                simp only [Option.bind_some, sres, Sum.elim_inl, Option.isSome_none, cond_false]
                cases seenK ks ks.length (l.getD i z_Gun).Kind <;> rfl
            · simp only [dlt hj, dge, dlt (show j < l.length by omega), Bool.and_self, cond_true, Int.toNat_natCast, wrapN (show j < 9223372036854775807 by omega)]
    · simp only [dlt hi, cond_true, rkind_eq hN ks hl.1 i hi, Option.bind_some, wrapN (show i < 9223372036854775807 by omega)]
def fewS (p : Park) : Bool := !(decide ((p.Kinds.length : Int) > 90) || decide ((p.Guns.length : Int) > 90)) && (fst (fun i => decide (((p.Kinds.getD i z_GunKind).Output.length : Int) > 90)) p.Kinds.length).isNone
theorem few_eq (p : Park) : l42_few N p = some (fewS p) := by
  unfold l42_few fewS
  rw [cond_or, Option.bind_some]
  cases hq : (decide ((p.Kinds.length : Int) > 90) || decide ((p.Guns.length : Int) > 90)) with
  | true => rfl
  | false =>
    have hl : p.Kinds.length ≤ 90 := by simp at hq; omega
    rw [cond_false, search (fun i => decide (((p.Kinds.getD i z_GunKind).Output.length : Int) > 90)) (fun _ => false) () p.Kinds.length (by omega) (fun i hi => ?_) (by simp)]
    · cases fst _ _ <;> rfl
    · simp only [dlt hi, dge, Bool.and_self, cond_true, Int.toNat_natCast, wrapN (show i < 9223372036854775807 by omega)]
def singS (g : Gun) : Bool := inRangeS g && (decide (g.Kind ≥ 1) && decide (g.Kind ≤ 9999))
theorem single_eq (g : Gun) : l42_single N g = some (singS g) := by
  unfold l42_single singS
  simp only [Option.bind_some, rright_eq hN]
  have h : ∀ g' : Gun, (g' = Gun.mk g.ID g.Node g.Run 1 g.State g.Since g.On g.Off) → (rightS [GunKind.mk 1 [z_Point] 0 0] [g'] == 0) = inRangeS g := by
    intro g' hg'
    have hg : inRangeS g' = inRangeS g := by rw [hg']; rfl
    have hk : errK [GunKind.mk 1 [z_Point] 0 0] 0 = 0 := by kernel_rfl
    have h1 : errG [GunKind.mk 1 [z_Point] 0 0] [g'] 0 = bif !inRangeS g then 2 else 0 := by
      rw [← hg]
      have : seenK [GunKind.mk 1 [z_Point] 0 0] 1 g'.Kind = true := by rw [hg']; rfl
      unfold errG
      simp only [List.getD_cons_zero, List.length_singleton, this]
      cases inRangeS g' <;> rfl
    unfold rightS
    simp only [List.length_singleton, fst_one, hk, h1]
    cases hh : inRangeS g with
    | true => rfl
    | false =>
      rw [hh] at h1
      show (errG [GunKind.mk 1 [z_Point] 0 0] [g'] 0 == 0) = false
      rw [h1]
      rfl
  rw [h _ rfl]
  cases inRangeS g <;> simp only [cond_true, cond_false, cond_and, Option.bind_some, Bool.true_and, Bool.false_and]
end
end Go.Proofs.Ytenjellgjcofaaa
