/- The ponds: the laws PondRights, PondFills, PondInflow in plain words. No condition. -/
import Derived.Test.YtoniopgegcngpaaPnd1
import Derived.Test.YtoniopgegcngpaaCmp
namespace Go.Proofs.Ytoniopgegcngpaa
open Go.Cm Go.Proofs
theorem t_PondRights : AllW (fun y => y = some true) [TI.l_Pond] (l39_PondRights 2000) := fun (l : List Pond) _ => by
  show l39_PondRights 2000 l = some true
  unfold l39_PondRights
  rw [alive_ok, pright_eq (by omega), rright_eq (by omega), right_eq (by omega)]
  simp only [Option.bind_some, Bool.not_true, cond_false, beq_self_eq_true, cond_true]
  cases decide ((l.length : Int) > 40) with
  | true => rfl
  | false =>
    by_cases h : rightS l = 0
    · obtain ⟨hl, _⟩ := (right_iff l).1 h
      have ha := right_all h
      simp [h, spare_eq (show 1000 < 2000 by omega) l hl ha, rspare_eq (show 1000 < 2000 by omega) l hl ha, total_eq (show 1000 < 2000 by omega) l hl ha, rtotal_eq (show 1000 < 2000 by omega) l hl ha]
    · have : (rightS l == 0) = false := by simp [h]
      simp [this]
theorem fillS_len (l : List Pond) (x : Int) : (fillS l x).1.length ≤ l.length := by
  unfold fillS
  cases (decide (x < 0) || decide (x > 86400)) <;> simp
theorem t_PondFills : AllW (fun y => y = some true) [TI.l_Pond, TI.t_i64] (l39_PondFills 2000) := fun (l : List Pond) _ (x : Int) _ => by
  show l39_PondFills 2000 l x = some true
  unfold l39_PondFills
  rw [alive_ok, right_eq (by omega)]
  by_cases h : rightS l = 0
  · obtain ⟨hl, _⟩ := (right_iff l).1 h
    have h1 := fillS_len l x
    have h0 : (rightS l == 0) = true := by simp [h]
    simp only [Option.bind_some, h0, Bool.not_true, cond_false, fill_eq (show 1000 < 2000 by omega) l x hl, rfill_eq (show 1000 < 2000 by omega) l x hl, same_eq (show 1000 < 2000 by omega) _ (show (fillS l x).1.length ≤ 900 by omega), cond_true, beq_self_eq_true]
  · have : (rightS l == 0) = false := by simp [h]
    simp [this]
/-! inflow -/
def fillI (p : Pond) (t : Int) : Int := min (p.Inflow * t / 3600) (p.Most - p.Volume)
theorem fill_i {p : Pond} (h : PondOk p) {t : Int} (h0 : 0 ≤ t) (h1 : t ≤ 86400) : fillW p t = fillI p t := by
  unfold PondOk at h
  have k1 : 0 ≤ p.Inflow * t := Int.mul_nonneg (by omega) h0
  have k2 : p.Inflow * t ≤ 10000000 * 86400 := Int.mul_le_mul (by omega) h1 h0 (by omega)
  unfold fillW fillI
  rw [wrap64 (z := p.Inflow * t) (by omega) (by omega), Int.tdiv_eq_ediv_of_nonneg k1, wrap64 (z := p.Inflow * t / 3600) (by omega) (by omega), wrap64 (by omega) (by omega)]
theorem fillI_bound {p : Pond} (h : PondOk p) {t : Int} (h0 : 0 ≤ t) : 0 ≤ fillI p t ∧ fillI p t ≤ p.Most - p.Volume := by
  unfold PondOk at h
  have k1 : 0 ≤ p.Inflow * t := Int.mul_nonneg (by omega) h0
  have k2 : 0 ≤ p.Inflow * t / 3600 := Int.ediv_nonneg k1 (by omega)
  unfold fillI
  omega
theorem fillI_mono {p : Pond} (h : PondOk p) {t u : Int} (htu : t ≤ u) : fillI p t ≤ fillI p u := by
  unfold PondOk at h
  have k1 : p.Inflow * t ≤ p.Inflow * u := Int.mul_le_mul_of_nonneg_left htu (by omega)
  have k2 := Int.ediv_le_ediv (show (0 : Int) < 3600 by omega) k1
  unfold fillI
  omega
theorem sumW_eq {l : List Pond} (hl : l.length ≤ 8) (h : ∀ p, p ∈ l → PondOk p) {t : Int} (h0 : 0 ≤ t) (h1 : t ≤ 86400) : sumW l t = (l.map fun p => fillI p t).sum := by
  have key : ∀ i, i ≤ l.length → sumW (l.take i) t = ((l.take i).map fun p => fillI p t).sum := by
    intro i
    induction i with
    | zero => intro _; rfl
    | succ i ih =>
      intro hi
      have hp := h _ (getD_mem l i z_Pond hi)
      have hf := fillI_bound hp h0
      have hb := sum_bound (fun p : Pond => fillI p t) 1000000000 (l.take i) (fun p hp' => by
        have h2 := h p (List.mem_of_mem_take hp')
        have h3 := fillI_bound h2 h0
        unfold PondOk at h2
        omega)
      have hlen : (l.take i).length ≤ 8 := by simp; omega
      unfold PondOk at hp
      rw [sumW_step l t i hi, ih (by omega), fill_i (h _ (getD_mem l i z_Pond hi)) h0 h1, sum_step (fun p => fillI p t) l z_Pond i hi, wrap64 (by omega) (by omega)]
  have := key l.length (Nat.le_refl _)
  rwa [List.take_length] at this
theorem sum_le {α : Type} (f g : α → Int) (l : List α) (h : ∀ p, p ∈ l → f p ≤ g p) : (l.map f).sum ≤ (l.map g).sum := by
  induction l with
  | nil => simp
  | cons p l ih =>
    have h1 := h p (List.mem_cons_self ..)
    have h2 := ih fun q hq => h q (List.mem_cons_of_mem _ hq)
    simp only [List.map_cons, List.sum_cons]
    omega
theorem fillP_vol {p : Pond} (h : PondOk p) {t : Int} (h0 : 0 ≤ t) (h1 : t ≤ 86400) : (fillP t p).Volume = p.Volume + fillI p t := by
  have hb := fillI_bound h h0
  unfold fillP
  rw [fill_i h h0 h1]
  unfold PondOk at h
  exact wrap64 (by omega) (by omega)
theorem fill_zero {p : Pond} (h : PondOk p) : fillP 0 p = p := by
  have hv := fillP_vol h (t := 0) (by omega) (by omega)
  have hz : fillI p 0 = 0 := by
    unfold fillI
    unfold PondOk at h
    simp
    omega
  have e : fillP 0 p = Pond.mk p.ID (fillP 0 p).Volume p.Least p.Most p.Inflow := rfl
  rw [e, hv, hz, Int.add_zero]
theorem t_PondInflow : AllW (fun y => y = some true) [TI.l_Pond, TI.t_Arr2_42] (l39_PondInflow 2000) := fun (l : List Pond) _ (w : Arr2_42) _ => by
  show l39_PondInflow 2000 l w = some true
  unfold l39_PondInflow
  rw [alive_ok, right_eq (by omega)]
  by_cases h : rightS l = 0
  · obtain ⟨hl, _⟩ := (right_iff l).1 h
    have ha := right_all h
    have h0 : (rightS l == 0) = true := by simp [h]
    have hmm : min w.a0 w.a1 ≤ max w.a0 w.a1 := by omega
    obtain ⟨x, hx⟩ : ∃ x, min w.a0 w.a1 = x := ⟨_, rfl⟩
    obtain ⟨y, hy⟩ : ∃ y, max w.a0 w.a1 = y := ⟨_, rfl⟩
    rw [hx, hy] at hmm
    have hz : fillS l 0 = (l, 0, 0) := by
      unfold fillS
      have e1 : l.map (fillP 0) = l := by
        refine (List.map_congr_left fun p hp => fill_zero (ha p hp)).trans (List.map_id _)
      have e2 : sumW l 0 = 0 := by
        rw [sumW_eq hl ha (by omega) (by omega)]
        have hb := sum_bound (fun p : Pond => fillI p 0) 0 l (fun p hp => by
          have h2 := ha p hp
          have : fillI p 0 = 0 := by unfold fillI; unfold PondOk at h2; simp; omega
          omega)
        omega
      rw [e1, e2]; rfl
    simp only [hx, hy, Option.bind_some, h0, Bool.not_true, cond_false, fill_eq (show 1000 < 2000 by omega) l _ hl, hz, bne_self_eq_false, same_eq (show 1000 < 2000 by omega) l (by omega)]
    have hE : ∀ t, (decide (t < 0) || decide (t > 86400)) = true → fillS l t = ([], 0, 2) := fun t ht => by unfold fillS; rw [ht]; rfl
    have hF : ∀ t, (decide (t < 0) || decide (t > 86400)) = false → fillS l t = (l.map (fillP t), sumW l t, 0) := fun t ht => by unfold fillS; rw [ht]; rfl
    cases hqx : (decide (x < 0) || decide (x > 86400)) with
    | true =>
      rw [hE x hqx]
      rfl
    | false =>
      cases hqy : (decide (y < 0) || decide (y > 86400)) with
      | true =>
        rw [hF x hqx, hE y hqy]
        rfl
      | false =>
        rw [hF x hqx, hF y hqy]
        have bx : 0 ≤ x ∧ x ≤ 86400 := by simp at hqx; omega
        have by' : 0 ≤ y ∧ y ≤ 86400 := by simp at hqy; omega
        simp only [bne_self_eq_false, cond_false, cond_or, Bool.or_self, Option.bind_some]
        rw [through () l.length (by omega) (fun i hi => ?_) (by simp)]
        · have s1 : 0 ≤ sumW l x ∧ sumW l x ≤ sumW l y := by
            rw [sumW_eq hl ha bx.1 bx.2, sumW_eq hl ha by'.1 by'.2]
            refine ⟨(sum_bound (fun p => fillI p x) 1000000000 l fun p hp => ?_).1, sum_le _ _ l fun p hp => fillI_mono (ha p hp) hmm⟩
            have h2 := ha p hp
            have h3 := fillI_bound h2 bx.1
            unfold PondOk at h2
            omega
          have e1 : decide (sumW l x ≥ 0) = true := by simp; omega
          have e2 : decide (sumW l y ≥ sumW l x) = true := by simp; omega
          simp only [Option.bind_some, Sum.elim_inl, e1, e2, cond_true]
        · have hp := ha _ (getD_mem l i z_Pond hi)
          have vx := fillP_vol hp bx.1 bx.2
          have vy := fillP_vol hp by'.1 by'.2
          have fx := fillI_bound hp bx.1
          have fy := fillI_bound hp by'.1
          have fm := fillI_mono hp hmm
          have g1 : decide ((i : Int) ≥ (l.length : Int)) = false := by simp; omega
          simp only [dlt hi, dge, List.length_map, g1, Bool.and_self, cond_true, cond_false, Int.toNat_natCast, getD_map _ l i z_Pond _ hi, vx, vy, wrapN (show i < 9223372036854775807 by omega)]
          have g2 : decide ((l.getD i z_Pond).Volume + fillI (l.getD i z_Pond) x < (l.getD i z_Pond).Volume) = false := by rw [decide_eq_false_iff_not]; omega
          have g3 : decide ((l.getD i z_Pond).Volume + fillI (l.getD i z_Pond) y < (l.getD i z_Pond).Volume + fillI (l.getD i z_Pond) x) = false := by rw [decide_eq_false_iff_not]; omega
          simp only [g2, g3, cond_false]
          by_cases hv : (l.getD i z_Pond).Volume = (l.getD i z_Pond).Most
          · have g4 : ((l.getD i z_Pond).Volume == (l.getD i z_Pond).Most) = true := by rw [beq_iff_eq]; exact hv
            have g5 : ((l.getD i z_Pond).Volume + fillI (l.getD i z_Pond) y != (l.getD i z_Pond).Most) = false := by rw [bne_eq_false_iff_eq]; omega
            simp only [g4, g5, cond_true, Option.bind_some, cond_false]
          · have g4 : ((l.getD i z_Pond).Volume == (l.getD i z_Pond).Most) = false := by rw [beq_eq_false_iff_ne]; exact hv
            simp only [g4, Option.bind_some, cond_false]
  · have : (rightS l == 0) = false := by simp [h]
    simp [this]
end Go.Proofs.Ytoniopgegcngpaa
