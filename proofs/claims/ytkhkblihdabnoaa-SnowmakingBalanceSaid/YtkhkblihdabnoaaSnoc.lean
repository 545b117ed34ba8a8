/- Snowmaking: Right and Switch exactly; what calls keep. No condition. -/
import Derived.Test.YtkhkblihdabnoaaSnob
namespace Go.Proofs.Ytkhkblihdabnoaa
open Go.Cm Go.Proofs
def badPk (p : RunPack) : Bool := decide (p.Run < 1) || (decide (p.Run > 9999) || (decide (p.Area < 1) || (decide (p.Area > 10000000) || !(decide (0 ≤ p.Pack.Natural) && decide (p.Pack.Natural ≤ 20000) && (decide (0 ≤ p.Pack.Machine) && decide (p.Pack.Machine ≤ 20000) && (decide (50 ≤ p.Pack.Density) && decide (p.Pack.Density ≤ 900)))))))
def errPk (l : List RunPack) (i : Nat) : Int := bif badPk (l.getD i z_RunPack) then 2 else bif decide (0 < i) && decide ((l.getD i z_RunPack).Run ≤ (l.getD (i - 1) z_RunPack).Run) then 11 else 0
def hasPack (l : List RunPack) (u : Int) : Bool := (fst (fun j => (l.getD j z_RunPack).Run == u) l.length).isSome
def hasNode (l : List Pipe) (u : Int) : Bool := (fst (fun j => (l.getD j z_Pipe).To == u) l.length).isSome
def errLk (s : SnowSystem) (i : Nat) : Bool := !(hasPack s.Packs (s.Guns.getD i z_Gun).Run && hasNode s.Pipes (s.Guns.getD i z_Gun).Node)
def restB (s : SnowSystem) : Bool := (decide (s.Pressure ≥ 0) && decide (s.Pressure ≤ 10000000)) && ((decide (s.Limit ≥ 0) && decide (s.Limit ≤ 1000000000)) && ((decide (s.Time ≥ 0) && decide (s.Time ≤ 20000000)) && cntB s.Water s.Lost s.Energy s.Inflow))
def rightT (s : SnowSystem) : Int := match fst (fun i => errPk s.Packs i != 0) s.Packs.length with
  | some i => errPk s.Packs i
  | none => bif (fst (errLk s) s.Guns.length).isSome then 8 else bif restB s then 0 else 2
def rightSS (r2 r3 : Int) (s : SnowSystem) : Int := bif Pn.rightS s.Ponds != 0 then Pn.rightS s.Ponds else bif r2 != 0 then r2 else bif r3 != 0 then r3 else bif Gn.rightS s.Kinds s.Guns != 0 then Gn.rightS s.Kinds s.Guns else rightT s
def Link (s : SnowSystem) : Prop := ∀ i, i < s.Guns.length → hasPack s.Packs (s.Guns.getD i z_Gun).Run = true ∧ hasNode s.Pipes (s.Guns.getD i z_Gun).Node = true
theorem pack_ok_iff (p : RunPack) : badPk p = false ↔ PackOk p := by
  unfold badPk PackOk
  simp only [Bool.or_eq_false_iff, Bool.not_eq_false', Bool.and_eq_true, decide_eq_true_eq, decide_eq_false_iff_not]
  omega
section
variable {N : Nat} (hN : 1000 < N)
include hN
theorem right_eq {s : SnowSystem} (h : Small s) {r2 r3 : Int} (e2 : pump_Right N s.Pumps = some r2) (e3 : pipe_Right N s.Pipes = some r3) : snowmaking_Right N s = some (rightSS r2 r3 s) := by
  have h1 := h.guns
  have h2 := h.kinds
  have h3 := h.pipes
  have h4 := h.packs
  unfold snowmaking_Right rightSS
  rw [Pn.pright_eq hN, Gn.gright_eq hN, e2, e3]
  simp only [Option.bind_some]
  cases Pn.rightS s.Ponds != 0 with
  | true => rfl
  | false =>
  cases r2 != 0 with
  | true => rfl
  | false =>
  cases r3 != 0 with
  | true => rfl
  | false =>
  cases Gn.rightS s.Kinds s.Guns != 0 with
  | true => rfl
  | false =>
  have c1 : decide ((s.Packs.length : Int) > 64) = false := by rw [decide_eq_false_iff_not]; omega
  simp only [cond_false, c1]
  unfold rightT
  rw [search (fun i => errPk s.Packs i != 0) (fun i => errPk s.Packs i) () s.Packs.length (by omega) (fun i hi => ?_) (by simp)]
  · cases fst (fun i => errPk s.Packs i != 0) s.Packs.length with
    | some i => rfl
    | none =>
      simp only [Option.bind_some, sres, Sum.elim_inl]
      rw [search (errLk s) (fun _ => (8 : Int)) () s.Guns.length (by omega) (fun i hi => ?_) (by simp)]
      · cases fst (errLk s) s.Guns.length with
        | some i => rfl
        | none =>
          simp only [Option.bind_some, sres, Sum.elim_inl, upTo_eq, counters_eq, cond_or, Option.isSome_none, cond_false]
          have : (!(decide (s.Pressure ≥ 0) && decide (s.Pressure ≤ 10000000)) || (!(decide (s.Limit ≥ 0) && decide (s.Limit ≤ 1000000000)) || (!(decide (s.Time ≥ 0) && decide (s.Time ≤ 20000000)) || !(decide (s.Water ≥ 0) && decide (s.Water ≤ 1125899906842624) && (decide (s.Lost ≥ 0) && decide (s.Lost ≤ 1125899906842624) && (decide (s.Energy ≥ 0) && decide (s.Energy ≤ 1125899906842624) && (decide (s.Inflow ≥ 0) && decide (s.Inflow ≤ 1125899906842624)))))))) = !restB s := by
            unfold restB cntB
            simp only [Bool.not_and]
          rw [this]
          cases restB s <;> rfl
      · simp only [dlt hi, dge, Bool.and_self, cond_true, Int.toNat_natCast, wrapN (show i < 9223372036854775807 by omega)]
        unfold errLk hasPack hasNode
        rw [search (fun j => (s.Packs.getD j z_RunPack).Run == (s.Guns.getD i z_Gun).Run) (fun j => (j : Int)) () s.Packs.length (by omega) (fun j hj => ?_) (by simp)]
        · cases fst (fun j => (s.Packs.getD j z_RunPack).Run == (s.Guns.getD i z_Gun).Run) s.Packs.length with
          | none => rfl
          | some k =>
            have c2 : decide ((k : Int) ≥ 0) = true := by simp
            simp only [Option.bind_some, sres, Sum.elim_inr, c2, Bool.not_true, cond_false, Option.isSome_some, Bool.true_and]
            rw [search (fun j => (s.Pipes.getD j z_Pipe).To == (s.Guns.getD i z_Gun).Node) (fun j => (j : Int)) () s.Pipes.length (by omega) (fun j hj => ?_) (by simp)]
            · cases fst (fun j => (s.Pipes.getD j z_Pipe).To == (s.Guns.getD i z_Gun).Node) s.Pipes.length with
              | none => rfl
              | some k =>
                have c2 : decide ((k : Int) ≥ 0) = true := by simp
                simp only [Option.bind_some, sres, Sum.elim_inr, c2, Bool.not_true, cond_false, Option.isSome_some]
            · simp only [dlt hj, dge, Bool.and_self, cond_true, Int.toNat_natCast, wrapN (show j < 9223372036854775807 by omega)]
        · simp only [dlt hj, dge, Bool.and_self, cond_true, Int.toNat_natCast, wrapN (show j < 9223372036854775807 by omega)]
  · simp only [dlt hi, dge, Bool.and_self, cond_true, Int.toNat_natCast, packRight_eq, Option.bind_some, cond_or, wrapN (show i < 9223372036854775807 by omega)]
    have hb : (decide ((s.Packs.getD i z_RunPack).Run < 1) || (decide ((s.Packs.getD i z_RunPack).Run > 9999) || (decide ((s.Packs.getD i z_RunPack).Area < 1) || (decide ((s.Packs.getD i z_RunPack).Area > 10000000) || !(decide (0 ≤ (s.Packs.getD i z_RunPack).Pack.Natural) && decide ((s.Packs.getD i z_RunPack).Pack.Natural ≤ 20000) && (decide (0 ≤ (s.Packs.getD i z_RunPack).Pack.Machine) && decide ((s.Packs.getD i z_RunPack).Pack.Machine ≤ 20000) && (decide (50 ≤ (s.Packs.getD i z_RunPack).Pack.Density) && decide ((s.Packs.getD i z_RunPack).Pack.Density ≤ 900)))))))) = badPk (s.Packs.getD i z_RunPack) := rfl
    rw [hb]
    unfold errPk
    cases badPk (s.Packs.getD i z_RunPack) with
    | true => rfl
    | false =>
      cases i with
      | zero => rfl
      | succ k =>
        have g1 : decide (((k + 1 : Nat) : Int) > 0) = true := by simp
        have g2 : decide (0 < k + 1) = true := by simp
        simp only [g1, g2, cond_true, cond_false, wrapS (show k < 9223372036854775807 by omega), dge, dlt (show k < s.Packs.length by omega), Bool.and_self, Int.toNat_natCast, Option.bind_some, Bool.true_and, Nat.add_sub_cancel]
        cases decide ((s.Packs.getD (k + 1) z_RunPack).Run ≤ (s.Packs.getD k z_RunPack).Run) <;> rfl
theorem right_fwd {s : SnowSystem} (h : Small s) (h0 : snowmaking_Right N s = some 0) : RightOk N s ∧ Link s := by
  obtain ⟨r, e, hr⟩ := right_spec hN h
  have hr : RightOk N s := hr (by rw [h0] at e; exact (Option.some.inj e).symm)
  refine ⟨hr, ?_⟩
  rw [right_eq hN h hr.pumpR hr.pipeR, Option.some.injEq] at h0
  unfold rightSS at h0
  rw [hr.ponds, hr.guns] at h0
  have h0 : rightT s = 0 := h0
  unfold rightT at h0
  have he : ∀ i, i < s.Packs.length → errPk s.Packs i = 0 := fun i hi => by
    unfold errPk
    rw [(pack_ok_iff _).2 (hr.packs i hi)]
    cases i with
    | zero => rfl
    | succ k =>
      have := hr.incr k hi
      have : decide ((s.Packs.getD (k + 1) z_RunPack).Run ≤ (s.Packs.getD (k + 1 - 1) z_RunPack).Run) = false := by rw [decide_eq_false_iff_not, Nat.add_sub_cancel]; omega
      rw [this, Bool.and_false]
      rfl
  rw [fst_none.2 fun i hi => by simp [he i hi]] at h0
  simp only at h0
  intro i hi
  cases hf : fst (errLk s) s.Guns.length with
  | some k => rw [hf] at h0; cases h0
  | none =>
    have := fst_none.1 hf i hi
    unfold errLk at this
    rw [Bool.not_eq_false', Bool.and_eq_true] at this
    exact this
theorem right_back {s : SnowSystem} (h : Small s) (hr : RightOk N s) (hl : Link s) : snowmaking_Right N s = some 0 := by
  rw [right_eq hN h hr.pumpR hr.pipeR]
  unfold rightSS
  rw [hr.ponds, hr.guns]
  show some (rightT s) = some 0
  unfold rightT
  have he : ∀ i, i < s.Packs.length → errPk s.Packs i = 0 := fun i hi => by
    unfold errPk
    rw [(pack_ok_iff _).2 (hr.packs i hi)]
    cases i with
    | zero => rfl
    | succ k =>
      have := hr.incr k hi
      have : decide ((s.Packs.getD (k + 1) z_RunPack).Run ≤ (s.Packs.getD (k + 1 - 1) z_RunPack).Run) = false := by rw [decide_eq_false_iff_not, Nat.add_sub_cancel]; omega
      rw [this, Bool.and_false]
      rfl
  rw [fst_none.2 fun i hi => by simp [he i hi]]
  simp only
  rw [fst_none.2 fun i hi => by unfold errLk; rw [(hl i hi).1, (hl i hi).2]; rfl]
  have : restB s = true := by
    have := hr.rest
    have := hr.count
    unfold restB cntB
    simp only [Bool.and_eq_true, decide_eq_true_eq]
    omega
  rw [this]
  rfl
end
/-! Switch -/
def withGun (s : SnowSystem) (i : Nat) (g : Gun) : SnowSystem := SnowSystem.mk s.Ponds s.Pumps s.Pipes s.Kinds (s.Guns.set i g) s.Packs s.Pressure s.Limit s.Time s.Water s.Lost s.Energy s.Inflow
def turnS (on : Bool) (g : Gun) (t : Int) : Gun × Int := bif on then Gn.startS g t else Gn.stopS g t
section
variable {N : Nat} (hN : 1000 < N)
include hN
theorem switch_eq {s : SnowSystem} (h : Small s) (id x : Int) (on : Bool) : snowmaking_Switch N s id on x =
    match fst (fun i => (s.Guns.getD i z_Gun).ID == id) s.Guns.length with
    | none => some (z_SnowSystem, 8)
    | some i => bif (turnS on (s.Guns.getD i z_Gun) s.Time).2 != 0 then some (z_SnowSystem, (turnS on (s.Guns.getD i z_Gun) s.Time).2)
      else bif on then (snowmaking_Why N (withGun s i (turnS on (s.Guns.getD i z_Gun) s.Time).1) x).bind fun w => bif w != 0 then some (z_SnowSystem, w) else some (withGun s i (turnS on (s.Guns.getD i z_Gun) s.Time).1, 0)
      else some (withGun s i (turnS on (s.Guns.getD i z_Gun) s.Time).1, 0) := by
  have h1 := h.guns
  unfold snowmaking_Switch
  rw [search (fun i => (s.Guns.getD i z_Gun).ID == id) (fun i => (i : Int)) () s.Guns.length (by omega) (fun i hi => ?_) (by simp)]
  · cases hf : fst (fun i => (s.Guns.getD i z_Gun).ID == id) s.Guns.length with
    | none => rfl
    | some i =>
      obtain ⟨hi, hid, _⟩ := fst_some.1 hf
      have g0 : decide ((i : Int) < 0) = false := by rw [decide_eq_false_iff_not]; omega
      simp only [Option.bind_some, sres, Sum.elim_inr, g0, cond_false, dge, dlt hi, Bool.and_self, Int.toNat_natCast, Gn.start_eq, Gn.stop_eq, copy_eq hN h, cond_true]
      cases on with
      | true =>
        simp only [cond_true, turnS]
        cases (Gn.startS (s.Guns.getD i z_Gun) s.Time).2 != 0 with
        | true => rfl
        | false =>
          simp only [cond_false]
          unfold withGun
          cases snowmaking_Why N (SnowSystem.mk s.Ponds s.Pumps s.Pipes s.Kinds (s.Guns.set i (Gn.startS (s.Guns.getD i z_Gun) s.Time).1) s.Packs s.Pressure s.Limit s.Time s.Water s.Lost s.Energy s.Inflow) x with
          | none => rfl
          | some w => simp only [Option.bind_some]; cases w != 0 <;> rfl
      | false =>
        simp only [cond_false, turnS, Option.bind_some, Sum.elim_inl]
        cases (Gn.stopS (s.Guns.getD i z_Gun) s.Time).2 != 0 <;> rfl
  · simp only [dlt hi, dge, Bool.and_self, cond_true, Int.toNat_natCast, wrapN (show i < 9223372036854775807 by omega)]
end
/-- the guns stay right -/
theorem guns_right {ks : List GunKind} {l l' : List Gun} (h : Gn.rightS ks l = 0) (hl : l'.length = l.length) (hs : ∀ j, j < l.length → (l'.getD j z_Gun).ID = (l.getD j z_Gun).ID ∧ (l'.getD j z_Gun).Kind = (l.getD j z_Gun).Kind ∧ Gn.inRangeS (l'.getD j z_Gun) = true) : Gn.rightS ks l' = 0 := by
  obtain ⟨a, b, c, d⟩ := Gn.right_zero h
  refine Gn.right_of a (by omega) c fun i hi => ?_
  rw [hl] at hi
  obtain ⟨q1, q2, q3⟩ := hs i hi
  have := d i hi
  unfold Gn.errG at this ⊢
  have hseen : Gn.seenG l' i (l'.getD i z_Gun).ID = Gn.seenG l i (l.getD i z_Gun).ID := by
    unfold Gn.seenG
    rw [q1, fst_congr fun j hj => ?_]
    rw [(hs j (by omega)).1]
  rw [hseen, q2, q3]
  cases hq : Gn.inRangeS (l.getD i z_Gun) with
  | false => rw [hq] at this; cases this
  | true => rw [hq] at this; exact this
theorem guns_in {ks : List GunKind} {l : List Gun} (h : Gn.rightS ks l = 0) {i : Nat} (hi : i < l.length) : Gn.inRangeS (l.getD i z_Gun) = true := by
  have := (Gn.right_zero h).2.2.2 i hi
  unfold Gn.errG at this
  cases hq : Gn.inRangeS (l.getD i z_Gun) with
  | false => rw [hq] at this; cases this
  | true => rfl
theorem turn_did {on : Bool} {g g' : Gun} {t : Int} (h : Gn.inRangeS g = true) (ht : turnS on g t = (g', 0)) : ∃ st, g' = Gun.mk g.ID g.Node g.Run g.Kind st t g.On g.Off ∧ 0 ≤ st ∧ st ≤ 2 ∧ t ≤ 20000000 ∧ g.Since ≤ t := by
  have hr := Gn.range_spec h
  have key : ∀ st least, 0 ≤ st → st ≤ 2 → 0 ≤ least ∧ least ≤ 86400 → Gn.becS g st t least = (g', 0) → ∃ st, g' = Gun.mk g.ID g.Node g.Run g.Kind st t g.On g.Off ∧ 0 ≤ st ∧ st ≤ 2 ∧ t ≤ 20000000 ∧ g.Since ≤ t := fun st least h1 h2 h3 hb => by
    rcases Gn.bec_did g st t least h h3 with ⟨_, q⟩ | ⟨q, q1, q2, q3⟩
    · rw [hb] at q; exact absurd rfl q
    · rw [hb] at q
      exact ⟨st, (Prod.mk.inj q).1, h1, h2, q2, q1⟩
  unfold turnS at ht
  cases on with
  | true =>
    simp only [cond_true] at ht
    unfold Gn.startS at ht
    cases hq : g.State != 0 with
    | true => rw [hq] at ht; simp at ht
    | false => rw [hq] at ht; exact key 1 g.Off (by omega) (by omega) (by omega) ht
  | false =>
    simp only [cond_false] at ht
    unfold Gn.stopS at ht
    cases hq : g.State != 1 with
    | true => rw [hq] at ht; simp at ht
    | false => rw [hq] at ht; exact key 0 g.On (by omega) (by omega) (by omega) ht
/-! what calls keep -/
def mI (l : List RunPack) : Int := (l.map fun p => p.Pack.Machine * p.Area).sum
structure Kept (N : Nat) (s t : SnowSystem) : Prop where
  sm : Small t
  ok : RightOk N t
  lnk : Link t
  guns : t.Guns.length = s.Guns.length
  ponds : Pn.Rel s.Ponds t.Ponds
  packl : t.Packs.length = s.Packs.length
  packs : ∀ i, i < s.Packs.length → (t.Packs.getD i z_RunPack).Run = (s.Packs.getD i z_RunPack).Run ∧ (t.Packs.getD i z_RunPack).Area = (s.Packs.getD i z_RunPack).Area ∧ (t.Packs.getD i z_RunPack).Pack.Natural = (s.Packs.getD i z_RunPack).Pack.Natural ∧ (s.Packs.getD i z_RunPack).Pack.Machine ≤ (t.Packs.getD i z_RunPack).Pack.Machine
  more : s.Energy ≤ t.Energy ∧ s.Water ≤ t.Water ∧ s.Lost ≤ t.Lost ∧ s.Inflow ≤ t.Inflow
  snow : t.Water - t.Lost - mI t.Packs = s.Water - s.Lost - mI s.Packs
  pond : Pn.totI t.Ponds - t.Inflow + t.Water = Pn.totI s.Ponds - s.Inflow + s.Water
theorem kept_refl {N : Nat} {s : SnowSystem} (h : Small s) (hr : RightOk N s) (hl : Link s) : Kept N s s :=
  ⟨h, hr, hl, rfl, Pn.rel_refl (Pn.right_all hr.ponds), rfl, fun i _ => ⟨rfl, rfl, rfl, Int.le_refl _⟩, ⟨Int.le_refl _, Int.le_refl _, Int.le_refl _, Int.le_refl _⟩, rfl, rfl⟩
theorem kept_trans {N : Nat} {s t u : SnowSystem} (h1 : Kept N s t) (h2 : Kept N t u) : Kept N s u := by
  refine ⟨h2.sm, h2.ok, h2.lnk, h2.guns.trans h1.guns, ⟨h2.ponds.1.trans h1.ponds.1, fun k hk => ?_⟩, h2.packl.trans h1.packl, fun i hi => ?_, ?_, h2.snow.trans h1.snow, h2.pond.trans h1.pond⟩
  · have a := h1.ponds.2 k hk
    have b := h2.ponds.2 k (by rw [h1.ponds.1]; exact hk)
    omega
  · have a := h1.packs i hi
    have b := h2.packs i (by rw [h1.packl]; exact hi)
    omega
  · have a := h1.more
    have b := h2.more
    omega
theorem kept_gun {N : Nat} {s : SnowSystem} (h : Small s) (hr : RightOk N s) (hl : Link s) {i : Nat} (hi : i < s.Guns.length) {on : Bool} {g : Gun} (ht : turnS on (s.Guns.getD i z_Gun) s.Time = (g, 0)) : Kept N s (withGun s i g) := by
  obtain ⟨st, hg, h1, h2, h3, h4⟩ := turn_did (guns_in hr.guns hi) ht
  have hrest := hr.rest
  have hget : ∀ j, j < s.Guns.length → ((s.Guns.set i g).getD j z_Gun).ID = (s.Guns.getD j z_Gun).ID ∧ ((s.Guns.set i g).getD j z_Gun).Kind = (s.Guns.getD j z_Gun).Kind ∧ ((s.Guns.set i g).getD j z_Gun).Run = (s.Guns.getD j z_Gun).Run ∧ ((s.Guns.set i g).getD j z_Gun).Node = (s.Guns.getD j z_Gun).Node ∧ Gn.inRangeS ((s.Guns.set i g).getD j z_Gun) = true := fun j hj => by
    rw [getD_set _ _ _ _ _ hi]
    by_cases hij : i = j
    · subst hij
      rw [if_pos rfl, hg]
      refine ⟨rfl, rfl, rfl, rfl, Gn.range_of ?_⟩
      have := Gn.range_spec (guns_in hr.guns hi)
      simp only
      omega
    · rw [if_neg hij]
      exact ⟨rfl, rfl, rfl, rfl, guns_in hr.guns hj⟩
  have hlen : (withGun s i g).Guns.length = s.Guns.length := by simp [withGun]
  refine ⟨⟨h.ponds, h.pumps, h.pipes, by rw [hlen]; exact h.guns, h.packs, h.kinds, h.outs⟩, ⟨hr.ponds, hr.pumps, hr.pumpR, hr.pipeR, ?_, hr.packs, hr.incr, hr.rest, hr.count⟩, fun j hj => ?_, hlen, Pn.rel_refl (Pn.right_all hr.ponds), rfl, fun i _ => ⟨rfl, rfl, rfl, Int.le_refl _⟩, ⟨Int.le_refl _, Int.le_refl _, Int.le_refl _, Int.le_refl _⟩, rfl, rfl⟩
  · exact guns_right hr.guns hlen fun j hj => ⟨(hget j hj).1, (hget j hj).2.1, (hget j hj).2.2.2.2⟩
  · rw [hlen] at hj
    have := hl j hj
    have q := hget j hj
    show hasPack s.Packs ((s.Guns.set i g).getD j z_Gun).Run = true ∧ hasNode s.Pipes ((s.Guns.set i g).getD j z_Gun).Node = true
    rw [q.2.2.1, q.2.2.2.1]
    exact this
end Go.Proofs.Ytkhkblihdabnoaa
