/- Snowmaking: what a step keeps; what any calls keep. No condition. -/
import Derived.Test.YtkhkblihdabnoaaSnoc
namespace Go.Proofs.Ytkhkblihdabnoaa
open Go.Cm Go.Proofs
theorem sum_add {α : Type} (f g : α → Int) (l : List α) : (l.map fun a => f a + g a).sum = (l.map f).sum + (l.map g).sum := by
  induction l with
  | nil => rfl
  | cons a l ih => simp only [List.map_cons, List.sum_cons, ih]; omega
theorem sum_sub {α : Type} (f g : α → Int) (l : List α) : (l.map fun a => f a - g a).sum = (l.map f).sum - (l.map g).sum := by
  induction l with
  | nil => rfl
  | cons a l ih => simp only [List.map_cons, List.sum_cons, ih]; omega
theorem sum_zero {α : Type} (f : α → Int) (l : List α) (h : ∀ a, a ∈ l → f a = 0) : (l.map f).sum = 0 := by
  induction l with
  | nil => rfl
  | cons a l ih => rw [List.map_cons, List.sum_cons, h a (List.mem_cons_self), ih fun b hb => h b (List.mem_cons_of_mem _ hb)]; rfl
theorem sum_congr {α : Type} {f g : α → Int} {l : List α} (h : ∀ a, a ∈ l → f a = g a) : (l.map f).sum = (l.map g).sum := by
  rw [List.map_congr_left h]
theorem sum_swap {α β : Type} (f : α → β → Int) (l : List α) (m : List β) : (l.map fun a => (m.map fun b => f a b).sum).sum = (m.map fun b => (l.map fun a => f a b).sum).sum := by
  induction l with
  | nil => simp only [List.map_nil, List.sum_nil]; exact (sum_zero _ m fun _ _ => rfl).symm
  | cons a l ih =>
    simp only [List.map_cons, List.sum_cons, ih]
    rw [sum_add]
theorem one_pack (u c : Int) : ∀ (l : List RunPack), l.Pairwise (fun a b => a.Run < b.Run) → (∃ p, p ∈ l ∧ p.Run = u) → (l.map fun p => bif u == p.Run then c else 0).sum = c
  | [], _, h => by obtain ⟨p, hp, _⟩ := h; cases hp
  | p :: l, hp, h => by
    rw [List.pairwise_cons] at hp
    rw [List.map_cons, List.sum_cons]
    by_cases hu : u = p.Run
    · subst hu
      rw [sum_zero _ l fun q hq => by
        have := hp.1 q hq
        have : (p.Run == q.Run) = false := by rw [beq_eq_false_iff_ne]; omega
        rw [this]; rfl]
      simp
    · have h1 : (u == p.Run) = false := by rw [beq_eq_false_iff_ne]; exact hu
      rw [h1, one_pack u c l hp.2 (by
        obtain ⟨q, hq, e⟩ := h
        rcases List.mem_cons.1 hq with rfl | hq
        · exact absurd e.symm hu
        · exact ⟨q, hq, e⟩)]
      simp
theorem packs_pw {l : List RunPack} (h : ∀ i, i + 1 < l.length → (l.getD i z_RunPack).Run < (l.getD (i + 1) z_RunPack).Run) : l.Pairwise (fun a b => a.Run < b.Run) := by
  have key : ∀ d i, i + (d + 1) < l.length → (l.getD i z_RunPack).Run < (l.getD (i + (d + 1)) z_RunPack).Run := fun d => by
    induction d with
    | zero => exact fun i hi => h i hi
    | succ d ih =>
      intro i hi
      have a := ih i (by omega)
      have b := h (i + (d + 1)) (by omega)
      have : i + (d + 1) + 1 = i + (d + 1 + 1) := by omega
      rw [this] at b
      omega
  rw [List.pairwise_iff_getElem]
  intro i j hi hj hij
  obtain ⟨d, rfl⟩ : ∃ d, j = i + (d + 1) := ⟨j - i - 1, by omega⟩
  have := key d i hj
  simpa [List.getD, List.getElem?_eq_getElem hi, List.getElem?_eq_getElem hj] using this
theorem runs_all {N : Nat} {s : SnowSystem} (hr : RightOk N s) (hl : Link s) (x sec : Int) : (s.Packs.map fun p => runL s x sec p.Run).sum = sumL s x sec := by
  unfold runL sumL
  rw [sum_swap (fun p g => litR s x sec p.Run g) s.Packs s.Guns]
  refine sum_congr fun g hg => ?_
  obtain ⟨i, hi, rfl⟩ := mem_getD z_Gun hg
  refine one_pack (s.Guns.getD i z_Gun).Run (lit s x sec (s.Guns.getD i z_Gun)) s.Packs (packs_pw hr.incr) ?_
  have := (hl i hi).1
  unfold hasPack at this
  cases hf : fst (fun j => (s.Packs.getD j z_RunPack).Run == (s.Guns.getD i z_Gun).Run) s.Packs.length with
  | none => rw [hf] at this; cases this
  | some j =>
    obtain ⟨a, b, _⟩ := fst_some.1 hf
    exact ⟨_, getD_mem s.Packs j z_RunPack a, by simpa using b⟩
theorem kept_step {N : Nat} (hN : 1000 < N) {s : SnowSystem} (h : Small s) (hr : RightOk N s) (hl : Link s) {x sec pw : Int} (h1 : 1 ≤ sec) (h2 : sec ≤ 3600) (h3 : s.Time + sec ≤ 20000000) (hs : sumL s x sec ≤ Pn.spaI s.Ponds)
    (hov : fst (overP s x sec) s.Packs.length = none) (hpw : 0 ≤ pw) (hc : cntB (stepT N s x sec pw).Water (stepT N s x sec pw).Lost (stepT N s x sec pw).Energy (stepT N s x sec pw).Inflow = true) : Kept N s (stepT N s x sec pw) := by
  obtain ⟨hpl, _⟩ := (Pn.right_iff s.Ponds).1 hr.ponds
  have hpa := Pn.right_all hr.ponds
  have hsb := sumL_bound h hr h1 h2 (x := x)
  obtain ⟨_, trel, ttot⟩ := take_spec hN hpl hpa hsb.1 hs
  have tright := Pn.rel_right hr.ponds trel
  obtain ⟨tl, _⟩ := (Pn.right_iff _).1 tright
  have ta := Pn.right_all tright
  obtain ⟨frel, ftot⟩ := Pn.fill_rel tl ta trel (t := sec) (by omega) (by omega)
  have fright := Pn.rel_right hr.ponds frel
  have hrest := hr.rest
  have hpl0 : (s.Packs.map (newP s x sec)).length = s.Packs.length := by simp
  have hget : ∀ i, i < s.Packs.length → (s.Packs.map (newP s x sec)).getD i z_RunPack = newP s x sec (s.Packs.getD i z_RunPack) := fun i hi => getD_map _ _ _ _ _ hi
  have hmm : ∀ p, p ∈ s.Packs → 0 ≤ mmP s x sec p := fun p hp => (mm_bound h hr h1 h2 (pack_mem hr hp) (x := x)).1
  have hc' := hc
  unfold cntB at hc'
  simp only [Bool.and_eq_true, decide_eq_true_eq] at hc'
  have hlost : ((s.Packs.map (lostP s x sec)).sum) = sumL s x sec - (s.Packs.map fun p => mmP s x sec p * p.Area).sum := by
    rw [← runs_all hr hl x sec, ← sum_sub]
    rfl
  have hmi : mI (s.Packs.map (newP s x sec)) = mI s.Packs + (s.Packs.map fun p => mmP s x sec p * p.Area).sum := by
    unfold mI
    rw [← sum_add, List.map_map]
    refine sum_congr fun p _ => ?_
    show (p.Pack.Machine + mmP s x sec p) * p.Area = _
    rw [Int.add_mul]
  have hl0 : 0 ≤ (s.Packs.map (lostP s x sec)).sum := (Pn.sum_bound (lostP s x sec) 18000000 s.Packs fun p hp => lost_bound h hr h1 h2 (pack_mem hr hp)).1
  have hin : 0 ≤ Pn.sumW (takeR N s.Ponds (sumL s x sec)) sec := by
    rw [Pn.sumW_eq tl ta (by omega) (by omega)]
    refine (Pn.sum_bound (fun p => Pn.fillI p sec) 1000000000 (takeR N s.Ponds (sumL s x sec)) fun p hp => ?_).1
    have q2 := ta p hp
    have q3 := Pn.fillI_bound q2 (t := sec) (by omega)
    unfold Pn.PondOk at q2
    omega
  have he : 0 ≤ pw * sec := Int.mul_nonneg hpw (by omega)
  refine ⟨⟨?_, h.pumps, h.pipes, h.guns, ?_, h.kinds, h.outs⟩, ⟨fright, hr.pumps, hr.pumpR, hr.pipeR, hr.guns, fun i hi => ?_, fun i hi => ?_, ?_, ?_⟩, fun i hi => ?_, rfl, frel, hpl0, fun i hi => ?_, ?_, ?_, ?_⟩
  · show ((takeR N s.Ponds (sumL s x sec)).map (Pn.fillP sec)).length ≤ 30
    rw [frel.1]; exact h.ponds
  · show (s.Packs.map (newP s x sec)).length ≤ 30
    rw [hpl0]; exact h.packs
  · have hi : i < s.Packs.length := by rw [← hpl0]; exact hi
    show PackOk ((s.Packs.map (newP s x sec)).getD i z_RunPack)
    rw [hget i hi]
    have hpo := hr.packs i hi
    have hm := mm_bound h hr h1 h2 hpo (x := x)
    have ho := fst_none.1 hov i hi
    unfold overP at ho
    rw [decide_eq_false_iff_not] at ho
    have hk := make_ok (p := (s.Packs.getD i z_RunPack).Pack) hpo.2.2.2.2 hm.1 hm.2.1 (by omega)
    exact ⟨hpo.1, hpo.2.1, hpo.2.2.1, hpo.2.2.2.1, hk⟩
  · have hi : i + 1 < s.Packs.length := by rw [← hpl0]; exact hi
    show ((s.Packs.map (newP s x sec)).getD i z_RunPack).Run < ((s.Packs.map (newP s x sec)).getD (i + 1) z_RunPack).Run
    rw [hget i (by omega), hget (i + 1) hi]
    exact hr.incr i hi
  · show 0 ≤ s.Pressure ∧ s.Pressure ≤ 10000000 ∧ 0 ≤ s.Limit ∧ s.Limit ≤ 1000000000 ∧ 0 ≤ s.Time + sec ∧ s.Time + sec ≤ 20000000
    omega
  · exact ⟨hc'.1.1, hc'.1.2, hc'.2.1.1, hc'.2.1.2, hc'.2.2.1.1, hc'.2.2.1.2, hc'.2.2.2.1, hc'.2.2.2.2⟩
  · have q := hl i hi
    refine ⟨?_, q.2⟩
    show hasPack (s.Packs.map (newP s x sec)) (s.Guns.getD i z_Gun).Run = true
    rw [← q.1]
    unfold hasPack
    rw [hpl0, fst_congr fun j hj => by rw [hget j hj]]
    rfl
  · show ((s.Packs.map (newP s x sec)).getD i z_RunPack).Run = _ ∧ ((s.Packs.map (newP s x sec)).getD i z_RunPack).Area = _ ∧ ((s.Packs.map (newP s x sec)).getD i z_RunPack).Pack.Natural = _ ∧ _ ≤ ((s.Packs.map (newP s x sec)).getD i z_RunPack).Pack.Machine
    rw [hget i hi]
    refine ⟨rfl, rfl, rfl, ?_⟩
    have := hmm _ (getD_mem s.Packs i z_RunPack hi)
    show (s.Packs.getD i z_RunPack).Pack.Machine ≤ (s.Packs.getD i z_RunPack).Pack.Machine + mmP s x sec (s.Packs.getD i z_RunPack)
    omega
  · show s.Energy ≤ s.Energy + pw * sec ∧ s.Water ≤ s.Water + sumL s x sec ∧ s.Lost ≤ s.Lost + (s.Packs.map (lostP s x sec)).sum ∧ s.Inflow ≤ s.Inflow + Pn.sumW (takeR N s.Ponds (sumL s x sec)) sec
    omega
  · show s.Water + sumL s x sec - (s.Lost + (s.Packs.map (lostP s x sec)).sum) - mI (s.Packs.map (newP s x sec)) = s.Water - s.Lost - mI s.Packs
    rw [hlost, hmi]
    omega
  · show Pn.totI ((takeR N s.Ponds (sumL s x sec)).map (Pn.fillP sec)) - (s.Inflow + Pn.sumW (takeR N s.Ponds (sumL s x sec)) sec) + (s.Water + sumL s x sec) = Pn.totI s.Ponds - s.Inflow + s.Water
    rw [ftot, ttot]
    omega
section
variable {N : Nat} (hN : 1000 < N)
include hN
theorem step_eq2 {s : SnowSystem} (h : Small s) (hr : RightOk N s) {x w pw e : Int} (hw : snowmaking_Why N s x = some w) (hp : snowmaking_Power N s x = some (pw, e)) (sec : Int) : snowmaking_Step N s x sec = some (stepS N s x sec w pw) := by
  by_cases ht : -9000000000000000000 ≤ sec ∧ sec ≤ 9000000000000000000
  · exact step_eq hN h hr hw hp sec ht
  · have hb : (decide (sec < 1) || decide (sec > 3600)) = true := by
      rw [Bool.or_eq_true, decide_eq_true_eq, decide_eq_true_eq]
      omega
    unfold snowmaking_Step stepS
    simp only [cond_or, Option.bind_some]
    rw [← Bool.or_assoc, hb, Bool.true_or, cond_true, ← Bool.or_assoc, hb, Bool.true_or, cond_true]
theorem done_kept {s : SnowSystem} (h : Small s) (hr : RightOk N s) (hl : Link s) (o : Op) : W (fun r : SnowSystem × Int => r.2 = 0 → Kept N s r.1) (l44_done N s o) := by
  unfold l44_done
  refine W_cond (fun _ => ?_) (fun _ => ?_)
  · obtain ⟨w, hw, _⟩ := why_tot hN h o.Wet
    obtain ⟨⟨pw, e⟩, hp, hpw⟩ := power_nn hN h hr o.Wet
    rw [step_eq2 hN h hr hw hp o.N, Option.bind_some]
    refine W_some fun h0 => ?_
    unfold stepS at h0 ⊢
    cases c1 : (decide (o.N < 1) || (decide (o.N > 3600) || (decide (s.Time + o.N > 20000000) || (decide (o.Wet < -1000) || decide (o.Wet > 1000))))) with
    | true => rw [c1] at h0; cases h0
    | false =>
      rw [c1, cond_false] at h0
      rw [cond_false]
      simp only [Bool.or_eq_false_iff, decide_eq_false_iff_not] at c1
      cases c2 : w != 0 with
      | true =>
        rw [c2, cond_true] at h0
        rw [bne_iff_ne] at c2
        exact absurd h0 c2
      | false =>
        rw [c2, cond_false] at h0
        rw [cond_false]
        cases c3 : decide (sumL s o.Wet o.N > Pn.spaI s.Ponds) with
        | true => rw [c3] at h0; cases h0
        | false =>
          rw [c3, cond_false] at h0
          rw [cond_false]
          rw [decide_eq_false_iff_not] at c3
          cases c4 : fst (overP s o.Wet o.N) s.Packs.length with
          | some i => rw [c4] at h0; cases h0
          | none =>
            rw [c4, Option.isSome_none, cond_false] at h0
            rw [Option.isSome_none, cond_false]
            cases c5 : cntB (stepT N s o.Wet o.N pw).Water (stepT N s o.Wet o.N pw).Lost (stepT N s o.Wet o.N pw).Energy (stepT N s o.Wet o.N pw).Inflow with
            | false => rw [c5] at h0; cases h0
            | true =>
              rw [cond_true]
              exact kept_step hN h hr hl (by omega) (by omega) (by omega) (by omega) c4 hpw c5
  · rw [switch_eq hN h]
    cases hf : fst (fun i => (s.Guns.getD i z_Gun).ID == o.N) s.Guns.length with
    | none => exact W_some fun h0 => by cases h0
    | some i =>
      obtain ⟨hi, _, _⟩ := fst_some.1 hf
      simp only
      cases hg : turnS (o.Kind == 1) (s.Guns.getD i z_Gun) s.Time with
      | mk g e =>
        simp only
        cases c1 : e != 0 with
        | true => exact W_some fun h0 => by rw [bne_iff_ne] at c1; exact absurd h0 c1
        | false =>
          have e0 : e = 0 := by simpa using c1
          subst e0
          have hk := kept_gun h hr hl hi hg
          cases o.Kind == 1 with
          | false => exact W_some fun _ => hk
          | true =>
            simp only [cond_false, cond_true]
            obtain ⟨w, hw, _⟩ := why_tot hN hk.sm o.Wet
            rw [hw]
            simp only [Option.bind_some]
            cases c2 : w != 0 with
            | true => exact W_some fun h0 => by rw [bne_iff_ne] at c2; exact absurd h0 c2
            | false => exact W_some fun _ => hk
theorem after_kept {s : SnowSystem} (h : Small s) (hr : RightOk N s) (hl : Link s) (l : List Op) (hlen : l.length ≤ 900) : W (fun t => Kept N s t) (l44_after N s l) := by
  unfold l44_after
  refine W_bind (Q' := fun t => Kept N s t) ?_ fun r hr => W_some hr
  refine W_loop (fun i st => st.1 = (i : Int) ∧ Kept N s st.2) l.length ⟨rfl, kept_refl h hr hl⟩ (fun i st hi hI => ?_) (fun st hI => ?_) (by omega)
  · obtain ⟨k, t⟩ := st
    obtain ⟨hk, hI⟩ := hI
    simp only at hk hI
    subst hk
    simp only [dlt hi, dge, Bool.and_self, cond_true, wrapC (show i < 9223372036854775807 by omega)]
    refine W_bind (done_kept hN hI.sm hI.ok hI.lnk _) fun r3 h3 => ?_
    refine W_bind (Q' := fun t => Kept N s t) ?_ fun r4 h4 => W_some ⟨rfl, h4⟩
    refine W_cond (fun h0 => W_some (kept_trans hI (h3 (by simpa using h0)))) (fun _ => W_some hI)
  · obtain ⟨k, t⟩ := st
    obtain ⟨hk, hI⟩ := hI
    simp only at hk
    subst hk
    simp only [dnlt, cond_false]
    exact W_some hI
end
end Go.Proofs.Ytkhkblihdabnoaa
