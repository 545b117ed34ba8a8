/- Own texts in one module: Sng5. No condition. -/
import Derived.Test.YtkhkblihdabnoaaGreatPlB
/- Snowmaking: the law SnowmakingBalances in plain words. No condition. -/
namespace Go.Proofs.YtkhkblihdabnoaaGreat
open Go.Cm Go.Proofs
def dM (a b : SnowSystem) (j : Nat) : Int := ((b.Packs.getD j z_RunPack).Pack.Machine - (a.Packs.getD j z_RunPack).Pack.Machine) * (a.Packs.getD j z_RunPack).Area
def sB (a b : SnowSystem) (i : Nat) : Int := ((List.range i).map (dM a b)).sum
theorem sB_step (a b : SnowSystem) (i : Nat) : sB a b (i + 1) = sB a b i + dM a b i := by
  unfold sB
  rw [List.range_succ, List.map_append, List.sum_append]
  simp
theorem dM_bound {N : Nat} {a b : SnowSystem} (ha : RightOk N a) (hb : RightOk N b) {i : Nat} (h1 : i < a.Packs.length) (h2 : i < b.Packs.length) :
    IntKind.i64.wrap (IntKind.i64.wrap ((b.Packs.getD i z_RunPack).Pack.Machine - (a.Packs.getD i z_RunPack).Pack.Machine) * (a.Packs.getD i z_RunPack).Area) = dM a b i ∧ -200000000000 ≤ dM a b i ∧ dM a b i ≤ 200000000000 := by
  have p1 := ha.packs i h1
  have p2 := hb.packs i h2
  unfold PackOk at p1 p2
  have k0 : 20000 * (a.Packs.getD i z_RunPack).Area ≤ 200000000000 := by omega
  have k1 : dM a b i ≤ 20000 * (a.Packs.getD i z_RunPack).Area := Int.mul_le_mul_of_nonneg_right (by omega) (by omega)
  have k2 : -20000 * (a.Packs.getD i z_RunPack).Area ≤ dM a b i := Int.mul_le_mul_of_nonneg_right (by omega) (by omega)
  refine ⟨?_, by omega, by omega⟩
  rw [wrap64 (z := (b.Packs.getD i z_RunPack).Pack.Machine - (a.Packs.getD i z_RunPack).Pack.Machine) (by omega) (by omega)]
  exact wrap64 (z := dM a b i) (by omega) (by omega)
theorem sB_bound {N : Nat} {a b : SnowSystem} (ha : RightOk N a) (hb : RightOk N b) (i : Nat) (h1 : i ≤ a.Packs.length) (h2 : i ≤ b.Packs.length) : -200000000000 * (i : Int) ≤ sB a b i ∧ sB a b i ≤ 200000000000 * (i : Int) := by
  induction i with
  | zero => simp [sB]
  | succ i ih =>
    have := ih (by omega) (by omega)
    have := (dM_bound ha hb (i := i) (by omega) (by omega)).2
    rw [sB_step]
    omega
def otherP (a b : SnowSystem) (i : Nat) : Bool := ((a.Packs.getD i z_RunPack).Run != (b.Packs.getD i z_RunPack).Run) || ((a.Packs.getD i z_RunPack).Area != (b.Packs.getD i z_RunPack).Area)
theorem t_SnowmakingBalances : AllW (fun y => y = some true) [TI.t_SnowSystem, TI.t_SnowSystem] (l44_SnowmakingBalances 2000) := fun (a : SnowSystem) _ (b : SnowSystem) _ => by
  show l44_SnowmakingBalances 2000 a b = some true
  have hN : 1000 < 2000 := by omega
  unfold l44_SnowmakingBalances
  rw [alive_ok]
  obtain ⟨r3, e3, q3⟩ := lright_spec hN a
  obtain ⟨r4, e4, q4⟩ := lright_spec hN b
  simp only [Option.bind_some, Bool.not_true, cond_false, e3, e4]
  cases r3 with
  | false => rfl
  | true =>
    cases r4 with
    | false => rfl
    | true =>
      obtain ⟨ha, hra, _⟩ := q3 rfl
      obtain ⟨hb, hrb, _⟩ := q4 rfl
      simp only [Bool.not_true, cond_false, Option.bind_some]
      have h1 := ha.packs
      have h2 := hb.packs
      have c1 := hra.count
      have c2 := hrb.count
      obtain ⟨hpl, _⟩ := (Pn.right_iff a.Ponds).1 hra.ponds
      have hpa := Pn.right_all hra.ponds
      obtain ⟨hpl', _⟩ := (Pn.right_iff b.Ponds).1 hrb.ponds
      have hpa' := Pn.right_all hrb.ponds
      have t1 := Pn.tot_bound hpl hpa
      have t2 := Pn.tot_bound hpl' hpa'
      unfold snowmaking_Balanced r44_Balanced
      cases hlen : ((a.Packs.length : Int) != (b.Packs.length : Int)) with
      | true => rfl
      | false =>
        have hlen : a.Packs.length = b.Packs.length := by
          rw [bne_eq_false_iff_eq] at hlen
          omega
        simp only [cond_false]
        rw [bindS (fun i => (b.Lost - a.Lost + sB a b i, (i : Int))) (by simp only [sB, List.range_zero, List.map_nil, List.sum_nil, Int.add_zero]; rw [wrap64 (by omega) (by omega)]; rfl) (otherP a b) (fun _ => false) (b.Lost - a.Lost + sB a b a.Packs.length) a.Packs.length (show a.Packs.length < 2000 by omega) (fun i hi _ => ?_) (fun _ => ?_),
          bindS (s0 := ((0 : Int), (0 : Int))) (fun i => (sB a b i, (i : Int))) rfl (otherP a b) (fun _ => false) (sB a b a.Packs.length) a.Packs.length (show a.Packs.length < 2000 by omega) (fun i hi _ => ?_) (fun _ => ?_)]
        · cases fst (otherP a b) a.Packs.length with
          | some i => rfl
          | none =>
            have sb := sB_bound hra hrb a.Packs.length (Nat.le_refl _) (by omega)
            simp only [sres, Sum.elim_inl, Pn.total_eq hN _ hpl hpa, Pn.total_eq hN _ hpl' hpa', Pn.rtotal_eq hN _ hpl hpa, Pn.rtotal_eq hN _ hpl' hpa', Option.bind_some]
            rw [wrap64 (z := b.Lost - a.Lost) (by omega) (by omega), wrap64 (z := b.Lost - a.Lost + sB a b a.Packs.length) (by omega) (by omega), bne]
            cases IntKind.i64.wrap (Pn.totI b.Ponds - Pn.totI a.Ponds) == IntKind.i64.wrap (IntKind.i64.wrap (b.Inflow - a.Inflow) - IntKind.i64.wrap (b.Water - a.Water)) with
            | false => rfl
            | true =>
              simp only [cond_true, Bool.not_true, cond_false, Option.bind_some, beq_self_eq_true]
        · have q := dM_bound hra hrb (i := i) hi (by omega)
          have sb := sB_bound hra hrb (i + 1) (by omega) (by omega)
          simp only [dlt hi, dge, dlt (show i < b.Packs.length by omega), Bool.and_self, cond_true, Int.toNat_natCast, cond_or, Option.bind_some, q.1, wrapC (show i < 9223372036854775807 by omega)]
          rw [sB_step] at sb ⊢
          rw [wrap64 (by omega) (by omega)]
          rfl
        · simp only [dnlt, cond_false]
        · have q := dM_bound hra hrb (i := i) hi (by omega)
          have sb := sB_bound hra hrb (i + 1) (by omega) (by omega)
          simp only [dlt hi, dge, dlt (show i < b.Packs.length by omega), Bool.and_self, cond_true, Int.toNat_natCast, cond_or, Option.bind_some, q.1, wrapC (show i < 9223372036854775807 by omega)]
          rw [sB_step] at sb ⊢
          rw [wrap64 (by omega) (by omega), Int.add_assoc]
          rfl
        · simp only [dnlt, cond_false]
end Go.Proofs.YtkhkblihdabnoaaGreat

