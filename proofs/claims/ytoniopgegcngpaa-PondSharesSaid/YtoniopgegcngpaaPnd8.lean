/- The ponds: the laws PondVolumes and PondShares in plain words. No condition. -/
import Derived.Test.YtoniopgegcngpaaPnd7
namespace Go.Proofs.Ytoniopgegcngpaa
open Go.Cm Go.Proofs
/-- the same ponds with other volumes -/
def Rel (l0 l : List Pond) : Prop := l.length = l0.length ∧ ∀ k, k < l0.length → (l.getD k z_Pond).ID = (l0.getD k z_Pond).ID ∧ (l.getD k z_Pond).Least = (l0.getD k z_Pond).Least ∧ (l.getD k z_Pond).Most = (l0.getD k z_Pond).Most ∧
  (l.getD k z_Pond).Inflow = (l0.getD k z_Pond).Inflow ∧ (l0.getD k z_Pond).Least ≤ (l.getD k z_Pond).Volume ∧ (l.getD k z_Pond).Volume ≤ (l0.getD k z_Pond).Most
theorem rel_right {l0 l : List Pond} (h0 : rightS l0 = 0) (h : Rel l0 l) : rightS l = 0 := by
  obtain ⟨hl, hr⟩ := (right_iff l0).1 h0
  obtain ⟨e, hk⟩ := h
  refine (right_iff l).2 ⟨by omega, fun i hi => ?_⟩
  rw [e] at hi
  obtain ⟨a, b⟩ := hr i hi
  obtain ⟨k1, k2, k3, k4, k5, k6⟩ := hk i hi
  refine ⟨?_, ?_⟩
  · unfold PondOk at a ⊢
    omega
  · rw [← b, k1]
    unfold seenP
    rw [fst_congr fun j hj => ?_]
    rw [(hk j (by omega)).1]
theorem sum_map_getD {l : List Pond} (f : Pond → Int) : ∀ {m : List Pond}, m.length = l.length → (g : Nat → Int) → (∀ k, k < l.length → f (m.getD k z_Pond) = f (l.getD k z_Pond) + g k) → (m.map f).sum = (l.map f).sum + ((List.range l.length).map g).sum := by
  have key : ∀ (n : Nat) {m : List Pond}, n ≤ l.length → m.length = l.length → (g : Nat → Int) → (∀ k, k < l.length → f (m.getD k z_Pond) = f (l.getD k z_Pond) + g k) → ((m.take n).map f).sum = ((l.take n).map f).sum + ((List.range n).map g).sum := by
    intro n
    induction n with
    | zero => intros; simp
    | succ n ih =>
      intro m hn hm g hg
      rw [sum_step f m z_Pond n (by omega), sum_step f l z_Pond n (by omega), ih (by omega) hm g hg, List.range_succ, List.map_append, List.sum_append, hg n (by omega)]
      simp
      omega
  intro m hm g hg
  have := key l.length (Nat.le_refl _) hm g hg
  rw [List.take_length] at this
  rw [← hm, List.take_length, hm] at this
  exact this
theorem sum_getD (l : List Int) : ((List.range l.length).map fun k => l.getD k 0).sum = l.sum := by
  congr 1
  refine list_ext 0 (by simp) fun i hi => ?_
  simp only [List.length_map, List.length_range] at hi
  simp [List.getD, hi]
theorem sum_getD_map (l : List Pond) (f : Pond → Int) : ((List.range l.length).map fun k => f (l.getD k z_Pond)).sum = (l.map f).sum := by
  congr 1
  refine list_ext 0 (by simp) fun i hi => ?_
  simp only [List.length_map, List.length_range] at hi
  simp [List.getD, hi]
/-- after Fill -/
theorem fill_rel {l0 l : List Pond} (hl : l.length ≤ 8) (ha : ∀ p, p ∈ l → PondOk p) (h : Rel l0 l) {t : Int} (h0 : 0 ≤ t) (h1 : t ≤ 86400) : Rel l0 (l.map (fillP t)) ∧ totI (l.map (fillP t)) = totI l + sumW l t := by
  obtain ⟨e, hk⟩ := h
  have hv : ∀ k, k < l.length → ((l.map (fillP t)).getD k z_Pond).Volume = (l.getD k z_Pond).Volume + fillI (l.getD k z_Pond) t := fun k hk' => by
    rw [getD_map (fillP t) l k z_Pond z_Pond hk']
    exact fillP_vol (ha _ (getD_mem l k z_Pond hk')) h0 h1
  refine ⟨⟨by simp [e], fun k hk0 => ?_⟩, ?_⟩
  · have hk' : k < l.length := by omega
    obtain ⟨k1, k2, k3, k4, k5, k6⟩ := hk k hk0
    have hb := fillI_bound (ha _ (getD_mem l k z_Pond hk')) h0
    have hv' := hv k hk'
    rw [getD_map (fillP t) l k z_Pond z_Pond hk'] at hv' ⊢
    have hv2 : (fillP t (l.getD k z_Pond)).Volume = (l.getD k z_Pond).Volume + fillI (l.getD k z_Pond) t := hv'
    refine ⟨k1, k2, k3, k4, ?_, ?_⟩ <;> rw [hv2] <;> omega
  · unfold totI
    rw [sumW_eq hl ha h0 h1, sum_map_getD (fun p => p.Volume) (by simp) (fun k => fillI (l.getD k z_Pond) t) hv, sum_getD_map l fun p => fillI p t]
/-- after Take -/
theorem take_rel {l0 l : List Pond} (ha : ∀ p, p ∈ l → PondOk p) (h : Rel l0 l) {ps : List Int} (hp : ps.length = l.length) (hb : ∀ i, i < l.length → 0 ≤ ps.getD i 0 ∧ ps.getD i 0 ≤ (l.getD i z_Pond).Volume - (l.getD i z_Pond).Least) : Rel l0 (takeL l ps) ∧ totI (takeL l ps) = totI l - ps.sum := by
  obtain ⟨e, hk⟩ := h
  have hv : ∀ k, k < l.length → ((takeL l ps).getD k z_Pond).Volume = (l.getD k z_Pond).Volume + -(ps.getD k 0) := fun k hk' => by
    rw [take_get hk' (by omega)]
    have hq := ha _ (getD_mem l k z_Pond hk')
    have hb' := hb k hk'
    unfold PondOk at hq
    show IntKind.i64.wrap ((l.getD k z_Pond).Volume - ps.getD k 0) = _
    rw [wrap64 (by omega) (by omega)]
    omega
  refine ⟨⟨by rw [take_len hp, e], fun k hk0 => ?_⟩, ?_⟩
  · have hk' : k < l.length := by omega
    obtain ⟨k1, k2, k3, k4, k5, k6⟩ := hk k hk0
    have hb' := hb k hk'
    have hv' := hv k hk'
    rw [take_get hk' (by omega)] at hv' ⊢
    refine ⟨k1, k2, k3, k4, ?_, ?_⟩ <;> rw [hv'] <;> omega
  · unfold totI
    rw [sum_map_getD (fun p => p.Volume) (take_len hp) (fun k => -(ps.getD k 0)) hv]
    have : ((List.range l.length).map fun k => -(ps.getD k 0)).sum = -ps.sum := by
      rw [← sum_getD ps, hp]
      generalize List.range l.length = r
      induction r with
      | nil => simp
      | cons x r ih => simp only [List.map_cons, List.sum_cons, ih]; omega
    rw [this]
    omega
theorem rel_refl {l : List Pond} (h : ∀ p, p ∈ l → PondOk p) : Rel l l := ⟨rfl, fun k hk => by
  have := h _ (getD_mem l k z_Pond hk)
  unfold PondOk at this
  omega⟩
theorem tot_bound {l : List Pond} (hl : l.length ≤ 8) (h : ∀ p, p ∈ l → PondOk p) : 0 ≤ totI l ∧ totI l ≤ 8000000000 := by
  have := sum_bound (fun p : Pond => p.Volume) 1000000000 l (fun p hp => by have := h p hp; unfold PondOk at this; omega)
  unfold totI
  omega
/-- what one call does -/
theorem t_PondVolumes : AllW (fun y => y = some true) [TI.l_Pond, TI.l_Op] (l39_PondVolumes 2000) := fun (l0 : List Pond) _ (ops : List Op) _ => by
  show l39_PondVolumes 2000 l0 ops = some true
  unfold l39_PondVolumes
  rw [alive_ok, right_eq (by omega)]
  by_cases hr : rightS l0 = 0
  · obtain ⟨hl0, _⟩ := (right_iff l0).1 hr
    have ha0 := right_all hr
    have h0 : (rightS l0 == 0) = true := by simp [hr]
    simp only [Option.bind_some, h0, Bool.not_true, cond_false]
    by_cases ho : (ops.length : Int) > 60
    · simp only [ho, decide_true, cond_true]
    · simp only [ho, decide_false, cond_false, total_eq (show 1000 < 2000 by omega) l0 hl0 ha0, Option.bind_some]
      refine bind_inv (fun i s => s.2.2 = (i : Int) ∧ Rel l0 s.1 ∧ s.2.1 = totI s.1) (fun r => r = .inl ()) ops.length ⟨rfl, rel_refl ha0, rfl⟩ (fun i s hi hI => .inl ?_) (fun s hI => ?_) (by omega) (fun r hr => ?_)
      · obtain ⟨l, sm, k⟩ := s
        obtain ⟨hk, hrel, hs⟩ := hI
        simp only at hk hrel hs
        subst hk
        subst hs
        have hrl := rel_right hr hrel
        obtain ⟨hl, _⟩ := (right_iff l).1 hrl
        have ha := right_all hrl
        have htb := tot_bound hl ha
        obtain ⟨op, hop⟩ : ∃ op, ops.getD i z_Op = op := ⟨_, rfl⟩
        -- the next ponds and their volume
        suffices hs : ∃ l', Rel l0 l' ∧ (bif op.Fill then
            (pond_Fill 2000 l op.N).bind fun (r7 : List Pond × Int × Int) => (bif r7.snd.snd == (0 : Int) then some (r7.fst, IntKind.i64.wrap (totI l + r7.snd.fst)) else some (l, totI l)).bind fun (r8 : List Pond × Int) => some r8
          else (pond_Take 2000 l op.N).bind fun (r9 : List Pond × Int) => (bif r9.snd == (0 : Int) then some (r9.fst, IntKind.i64.wrap (totI l - op.N)) else some (l, totI l)).bind fun (r10 : List Pond × Int) => some r10) = some (l', totI l') by
          obtain ⟨l', hrel', he⟩ := hs
          have hrl' := rel_right hr hrel'
          obtain ⟨hl', _⟩ := (right_iff l').1 hrl'
          have ha' := right_all hrl'
          refine ⟨(l', totI l', ((i + 1 : Nat) : Int)), ?_, rfl, hrel', rfl⟩
          have c1 : ((l'.length : Int) != (l0.length : Int)) = false := by rw [bne_eq_false_iff_eq, hrel'.1]
          simp only [dlt hi, dge, Bool.and_self, cond_true, Int.toNat_natCast, hop]
          rw [he]
          simp only [Option.bind_some, c1, cond_false, total_eq (show 1000 < 2000 by omega) l' hl' ha', bne_self_eq_false, pright_eq (show 1000 < 2000 by omega), hrl']
          rw [through () l'.length (by omega) (fun j hj => ?_) (by simp)]
          · simp only [Option.bind_some, Sum.elim_inl, wrapC (show i < 9223372036854775807 by omega)]
          · have hj0 : j < l0.length := by rw [← hrel'.1]; exact hj
            obtain ⟨k1, k2, k3, k4, k5, k6⟩ := hrel'.2 j hj0
            have d1 : decide ((l'.getD j z_Pond).Volume < (l0.getD j z_Pond).Least) = false := by rw [decide_eq_false_iff_not]; omega
            have d2 : decide ((l'.getD j z_Pond).Volume > (l0.getD j z_Pond).Most) = false := by rw [decide_eq_false_iff_not]; omega
            simp only [dlt hj, dlt hj0, dge, Bool.and_self, cond_true, Int.toNat_natCast, k1, k2, k3, k4, d1, d2, beq_self_eq_true, Bool.not_true, cond_false, Option.bind_some, wrapN (show j < 9223372036854775807 by omega)]
        cases hf : op.Fill with
        | true =>
          rw [cond_true, fill_eq (show 1000 < 2000 by omega) l op.N hl]
          cases hq : (decide (op.N < 0) || decide (op.N > 86400)) with
          | true =>
            refine ⟨l, hrel, ?_⟩
            unfold fillS
            rw [hq]
            rfl
          | false =>
            have hb : 0 ≤ op.N ∧ op.N ≤ 86400 := by simp at hq; omega
            obtain ⟨f1, f2⟩ := fill_rel hl ha hrel hb.1 hb.2
            refine ⟨_, f1, ?_⟩
            have hrl' := rel_right hr f1
            have htb' := tot_bound ((right_iff _).1 hrl').1 (right_all hrl')
            rw [f2] at htb'
            unfold fillS
            rw [hq]
            simp only [cond_false, Option.bind_some, beq_self_eq_true, cond_true, f2]
            rw [wrap64 (by omega) (by omega)]
        | false =>
          rw [cond_false]
          by_cases h1 : op.N < 0
          · exact ⟨l, hrel, by rw [(take_low (N := 2000) (l := l) h1).1]; rfl⟩
          · by_cases h2 : spaI l < op.N
            · exact ⟨l, hrel, by rw [(take_high (show 1000 < 2000 by omega) hl ha (by omega) h2).1]; rfl⟩
            · by_cases h3 : op.N = 0
              · refine ⟨l, hrel, ?_⟩
                rw [h3, (take_zero (show 1000 < 2000 by omega) hl ha).1]
                simp only [Option.bind_some, beq_self_eq_true, cond_true, Int.sub_zero]
                rw [wrap64 (by omega) (by omega)]
              · obtain ⟨o, hS, a, _⟩ := take_some (show 1000 < 2000 by omega) hl ha (x := op.N) (by omega) (by omega)
                have g := good_of hl ha (x := op.N) (by omega) (by omega)
                have hpf := parts_facts g hS
                have hwl : (wsOf l).length = l.length := by simp [wsOf]
                obtain ⟨f1, f2⟩ := take_rel ha hrel (ps := partsOf op.N (wsOf l) o) (by rw [hpf.1, hwl]) (fun j hj => by
                  have := hpf.2.2 j (by omega)
                  have e : (wsOf l).getD j 0 = (l.getD j z_Pond).Volume - (l.getD j z_Pond).Least := getD_map _ l j z_Pond 0 hj
                  rw [← e]
                  exact this.2)
                rw [hpf.2.1] at f2
                refine ⟨_, f1, ?_⟩
                have hrl' := rel_right hr f1
                have htb' := tot_bound ((right_iff _).1 hrl').1 (right_all hrl')
                rw [f2] at htb'
                rw [a]
                simp only [Option.bind_some, beq_self_eq_true, cond_true, f2]
                rw [wrap64 (by omega) (by omega)]
      · obtain ⟨l, sm, k⟩ := s
        obtain ⟨hk, hrel, hs⟩ := hI
        simp only at hk
        subst hk
        exact ⟨_, by simp only [dnlt, cond_false], rfl⟩
      · subst hr
        rfl
  · have : (rightS l0 == 0) = false := by simp [hr]
    simp [this]
/-! shares -/
theorem fair_eq {N : Nat} (hN : 1000 < N) {a : Int} {ws o : List Int} (g : Good a ws) (hS : Sorted (ws.map (rF a ws.sum)) ws.length o) : r34_Fair N a ws (partsOf a ws o) = some true := by
  obtain ⟨h1, h2, h3, h4⟩ := g.sum
  have hl := g.len
  have hp := g.pos
  obtain ⟨p1, p2, p3⟩ := parts_facts g hS
  unfold r34_Fair
  simp only [p1, bne_self_eq_false, cond_false]
  rw [through () ws.length (by omega) (fun i hi => ?_) (by simp)]
  · have hb : ∀ x, x ∈ partsOf a ws o → 0 ≤ x ∧ x ≤ 1000000000000 := fun x hx => by
      obtain ⟨i, hi, rfl⟩ := mem_getD 0 hx
      rw [p1] at hi
      have := p3 i hi
      have := g.wt _ (getD_mem ws i 0 hi)
      omega
    simp only [Option.bind_some, Sum.elim_inl, rsum_eq hN (partsOf a ws o) (by omega) hb, p2, beq_self_eq_true]
  · have hw := getD_mem ws i 0 hi
    have hb := g.wt _ hw
    have hq := g.q hw
    have hqt : r34_Quotient N a (ws.getD i 0) ws.sum = some (qF a ws.sum (ws.getD i 0), rF a ws.sum (ws.getD i 0)) := quot_eq hN (by omega) (by omega) hb.1 hb.2 h2 (by omega) (h4 _ hw)
    obtain ⟨⟨b, e1, e2⟩, _, _⟩ := p3 i hi
    simp only [dlt hi, dge, Bool.and_self, cond_true, Int.toNat_natCast, rsum_eq hN ws (by omega) (fun x hx => by have := g.wt x hx; omega), hqt, Option.bind_some, e1, wrapN (show i < 9223372036854775807 by omega)]
    cases b with
    | false => simp only [cond_false, Int.add_zero, bne_self_eq_false, Option.bind_some]
    | true =>
      have hr := e2 rfl
      have d1 : (qF a ws.sum (ws.getD i 0) + 1 != qF a ws.sum (ws.getD i 0)) = true := by rw [bne_iff_ne]; omega
      have d2 : (rF a ws.sum (ws.getD i 0) == 0) = false := by rw [beq_eq_false_iff_ne]; omega
      simp only [cond_true, d1, d2, cond_false]
      rw [wrap64 (by omega) (by omega)]
      simp only [bne_self_eq_false, Option.bind_some, cond_false]
/-- all of it -/
theorem take_all {l : List Pond} (hl : l.length ≤ 8) (ha : ∀ p, p ∈ l → PondOk p) : ∃ x : List Pond, pond_Take 2000 l (spaI l) = some (x, 0) ∧ Rel l x ∧ (∀ i, i < l.length → (x.getD i z_Pond).Volume = (l.getD i z_Pond).Least) := by
  have hwl : (wsOf l).length = l.length := by simp [wsOf]
  have hw0 : ∀ w, w ∈ wsOf l → 0 ≤ w := fun w hw => by
    obtain ⟨p, hp, rfl⟩ := List.mem_map.1 hw
    have := ha p hp
    unfold PondOk at this
    omega
  have hge := sum_ge (wsOf l) hw0
  have hsp : spaI l = (wsOf l).sum := rfl
  have hwi : ∀ j, j < l.length → (wsOf l).getD j 0 = (l.getD j z_Pond).Volume - (l.getD j z_Pond).Least := fun j hj => getD_map _ l j z_Pond 0 hj
  by_cases h0 : spaI l = 0
  · refine ⟨l, by rw [h0]; exact (take_zero (show 1000 < 2000 by omega) hl ha).1, rel_refl ha, fun i hi => ?_⟩
    have h1 := hge.2 _ (getD_mem (wsOf l) i 0 (by omega))
    have h2 := hw0 _ (getD_mem (wsOf l) i 0 (by omega))
    have h3 := hwi i hi
    omega
  · have hpos : 0 < spaI l := by omega
    obtain ⟨o, hS, a, _⟩ := take_some (show 1000 < 2000 by omega) hl ha hpos (Int.le_refl _)
    have g := good_of hl ha hpos (Int.le_refl _)
    have hpf := parts_facts g hS
    have hpl : (partsOf (spaI l) (wsOf l) o).length = l.length := by rw [hpf.1, hwl]
    obtain ⟨f1, f2⟩ := take_rel ha (rel_refl ha) (ps := partsOf (spaI l) (wsOf l) o) hpl (fun j hj => by
      have := hpf.2.2 j (by omega)
      rw [← hwi j hj]
      exact this.2)
    refine ⟨_, a, f1, fun i hi => ?_⟩
    obtain ⟨⟨b, e1, e2⟩, _, e3⟩ := hpf.2.2 i (by omega)
    have hq : qF (spaI l) (wsOf l).sum ((wsOf l).getD i 0) = (wsOf l).getD i 0 := by
      unfold qF
      rw [hsp]
      exact Int.mul_ediv_cancel_left _ (by omega)
    rw [hq] at e1
    have hb : (partsOf (spaI l) (wsOf l) o).getD i 0 = (wsOf l).getD i 0 := by
      cases b <;> simp only [cond_true, cond_false] at e1 <;> omega
    rw [take_get hi (by omega), hb, hwi i hi]
    have hp := ha _ (getD_mem l i z_Pond hi)
    unfold PondOk at hp
    show IntKind.i64.wrap ((l.getD i z_Pond).Volume - ((l.getD i z_Pond).Volume - (l.getD i z_Pond).Least)) = _
    rw [wrap64 (by omega) (by omega)]
    omega
theorem t_PondShares : AllW (fun y => y = some true) [TI.l_Pond, TI.t_i64] (l39_PondShares 2000) := fun (l : List Pond) _ (x : Int) _ => by
  show l39_PondShares 2000 l x = some true
  unfold l39_PondShares
  rw [alive_ok, right_eq (by omega)]
  by_cases hr : rightS l = 0
  · obtain ⟨hl, _⟩ := (right_iff l).1 hr
    have ha := right_all hr
    have h0 : (rightS l == 0) = true := by simp [hr]
    obtain ⟨xa, t1, t2, t3⟩ := take_all hl ha
    have hrx := rel_right hr t2
    have hlx := ((right_iff xa).1 hrx).1
    have hax := right_all hrx
    have hsx : spaI xa = 0 := by
      have := sum_bound (fun p : Pond => p.Volume - p.Least) 0 xa (fun p hp => by
        obtain ⟨i, hi, rfl⟩ := mem_getD z_Pond hp
        have hi' : i < l.length := by rw [← t2.1]; exact hi
        have h1 := t3 i hi'
        have h2 := (t2.2 i hi').2.1
        omega)
      unfold spaI
      omega
    have c1 : ((xa.length : Int) != (l.length : Int)) = false := by rw [bne_eq_false_iff_eq, t2.1]
    have th := (take_high (show 1000 < 2000 by omega) hlx hax (x := 1) (by omega) (by omega)).1
    simp only [Option.bind_some, h0, Bool.not_true, cond_false, spare_eq (show 1000 < 2000 by omega) l hl ha, t1, bne_self_eq_false, c1, spare_eq (show 1000 < 2000 by omega) xa hlx hax, hsx, th]
    by_cases h1 : x < 0
    · have d1 : decide (x ≤ 0) = true := by rw [decide_eq_true_eq]; omega
      have d2 : (x == 0) = false := by rw [beq_eq_false_iff_ne]; omega
      have d3 : (x != 0) = true := by rw [bne_iff_ne]; omega
      simp only [(take_low (N := 2000) (l := l) h1).1, Option.bind_some, d1, d2, d3, cond_true, cond_false]
      rfl
    · by_cases h2 : spaI l < x
      · have hs0 : 0 ≤ spaI l := (sum_bound (fun p : Pond => p.Volume - p.Least) 1000000000 l (fun p hp => by have := ha p hp; unfold PondOk at this; omega)).1
        have d1 : decide (x ≤ 0) = false := by rw [decide_eq_false_iff_not]; omega
        have d1' : decide (x > spaI l) = true := by rw [decide_eq_true_eq]; omega
        have d2 : (x == 0) = false := by rw [beq_eq_false_iff_ne]; omega
        have d3 : (x != 0) = true := by rw [bne_iff_ne]; omega
        simp only [(take_high (show 1000 < 2000 by omega) hl ha (by omega) h2).1, Option.bind_some, d1, d1', d2, d3, cond_true, cond_false]
        rfl
      · by_cases h3 : x = 0
        · subst h3
          simp only [(take_zero (show 1000 < 2000 by omega) hl ha).1, Option.bind_some, same_eq (show 1000 < 2000 by omega) l (by omega)]
          rfl
        · obtain ⟨o, hS, a, _⟩ := take_some (show 1000 < 2000 by omega) hl ha (x := x) (by omega) (by omega)
          have g := good_of hl ha (x := x) (by omega) (by omega)
          have hpf := parts_facts g hS
          have hwl : (wsOf l).length = l.length := by simp [wsOf]
          have hpl : (partsOf x (wsOf l) o).length = l.length := by rw [hpf.1, hwl]
          have hwi : ∀ j, j < l.length → (wsOf l).getD j 0 = (l.getD j z_Pond).Volume - (l.getD j z_Pond).Least := fun j hj => getD_map _ l j z_Pond 0 hj
          have d1 : decide (x ≤ 0) = false := by rw [decide_eq_false_iff_not]; omega
          have d1' : decide (x > spaI l) = false := by rw [decide_eq_false_iff_not]; omega
          simp only [a, Option.bind_some, d1, d1', cond_false, take_len hpl]
          refine (bindT (fun i => ((wsOf l).take i, (partsOf x (wsOf l) o).take i, (i : Int))) rfl (Sum.inl (wsOf l, partsOf x (wsOf l) o)) l.length (by omega) (fun i hi => ?_) ?_).trans ?_
          · have hv : ((takeL l (partsOf x (wsOf l) o)).getD i z_Pond).Volume = (l.getD i z_Pond).Volume - (partsOf x (wsOf l) o).getD i 0 := by
              rw [take_get hi (by omega)]
              have hp := ha _ (getD_mem l i z_Pond hi)
              have hb := hpf.2.2 i (by omega)
              have := hwi i hi
              unfold PondOk at hp
              show IntKind.i64.wrap ((l.getD i z_Pond).Volume - (partsOf x (wsOf l) o).getD i 0) = _
              rw [wrap64 (by omega) (by omega)]
            have hb := hpf.2.2 i (by omega)
            have hwi' := hwi i hi
            have hp := ha _ (getD_mem l i z_Pond hi)
            unfold PondOk at hp
            have hix : i < xa.length := by rw [t2.1]; exact hi
            have g1 : decide ((i : Int) ≥ (l.length : Int)) = false := by rw [decide_eq_false_iff_not]; omega
            have g2 : decide ((l.getD i z_Pond).Volume - (partsOf x (wsOf l) o).getD i 0 < (l.getD i z_Pond).Least) = false := by rw [decide_eq_false_iff_not]; omega
            have b1 : ∀ y : Int, decide ((((wsOf l).take i).length + [y].length) * 8 ≤ 140737488355328) = true := fun y => by
              simp only [List.length_take, List.length_singleton, decide_eq_true_eq]; omega
            have b2 : ∀ y : Int, decide ((((partsOf x (wsOf l) o).take i).length + [y].length) * 8 ≤ 140737488355328) = true := fun y => by
              simp only [List.length_take, List.length_singleton, decide_eq_true_eq]; omega
            have w1 : IntKind.i64.wrap ((l.getD i z_Pond).Volume - (l.getD i z_Pond).Least) = (wsOf l).getD i 0 := by rw [wrap64 (by omega) (by omega)]; omega
            have w2 : IntKind.i64.wrap ((l.getD i z_Pond).Volume - ((l.getD i z_Pond).Volume - (partsOf x (wsOf l) o).getD i 0)) = (partsOf x (wsOf l) o).getD i 0 := by rw [wrap64 (by omega) (by omega)]; omega
            simp only [dlt hi, dlt hix, dge, g1, Bool.and_self, cond_true, cond_false, Int.toNat_natCast, hv, g2, t3 i hi, bne_self_eq_false, Option.bind_some, w1, w2, b1, b2, wrapC (show i < 9223372036854775807 by omega)]
            rw [take_getD (wsOf l) i 0 (by omega), take_getD (partsOf x (wsOf l) o) i 0 (by omega)]
          · have e1 : (wsOf l).take l.length = wsOf l := by rw [← hwl, List.take_length]
            have e2 : (partsOf x (wsOf l) o).take l.length = partsOf x (wsOf l) o := by rw [← hpl, List.take_length]
            simp only [dnlt, cond_false, e1, e2]
          · simp only [Sum.elim_inl, beq_self_eq_true, cond_true, fair_eq (show 1000 < 2000 by omega) g hS, Option.bind_some]
  · have : (rightS l == 0) = false := by simp [hr]
    simp [this]
end Go.Proofs.Ytoniopgegcngpaa
