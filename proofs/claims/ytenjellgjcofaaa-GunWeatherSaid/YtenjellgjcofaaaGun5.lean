/- The guns: the law GunWeather in plain words. No condition. -/
import Derived.Test.YtenjellgjcofaaaGun3
namespace Go.Proofs.Ytenjellgjcofaaa
open Go.Cm Go.Proofs
/-! rounding down -/
theorem flo_eq {a b : Int} (hb : 0 < b) (h1 : -4000000000000000000 ≤ a) (h2 : a ≤ 4000000000000000000) : floS a b = a / b := by
  have hlo : -4000000000000000001 ≤ a / b := by
    have h := Int.ediv_le_ediv hb h1
    have h3 : (-4000000000000000000 : Int) ≤ -4000000000000000000 / b := by
      rw [Int.le_ediv_iff_mul_le hb]
      have : (4000000000000000000 : Int) * 1 ≤ 4000000000000000000 * b := Int.mul_le_mul_of_nonneg_left (by omega) (by omega)
      omega
    omega
  have hhi : a / b ≤ 4000000000000000000 := by
    have h := Int.ediv_le_ediv hb h2
    have h3 : (4000000000000000000 : Int) / b ≤ 4000000000000000000 := Int.ediv_le_self _ (by omega)
    omega
  have hm := Int.emod_nonneg a (show b ≠ 0 by omega)
  have hm2 := Int.emod_lt_of_pos a hb
  unfold floS
  rw [Int.tmod_eq_emod, Int.tdiv_eq_ediv]
  have hs : b.sign = 1 := Int.sign_eq_one_of_pos hb
  have hn : (b.natAbs : Int) = b := by omega
  rw [hs]
  by_cases hc : 0 ≤ a ∨ b ∣ a
  · rw [if_pos hc, if_pos hc]
    have : decide (a % b - ((0 : Nat) : Int) < 0) = false := by simp; omega
    rw [this, cond_false, wrap64 (by omega) (by omega)]
    omega
  · rw [if_neg hc, if_neg hc]
    have : decide (a % b - (b.natAbs : Int) < 0) = true := by simp; omega
    rw [this, cond_true, wrap64 (show -9223372036854775808 ≤ a / b + 1 by omega) (by omega), wrap64 (by omega) (by omega)]
    omega
/-! one piece -/
def Piece (p q : Point) : Prop := p.X < q.X ∧ q.Y ≤ p.Y ∧ 0 ≤ q.Y ∧ p.Y ≤ 10000 ∧ -1000000000 ≤ p.X ∧ q.X ≤ 1000000000
theorem piece_eq {p q : Point} {x : Int} (h : Piece p q) (h1 : p.X ≤ x) (h2 : x ≤ q.X) : pieceS p q x = p.Y + (q.Y - p.Y) * (x - p.X) / (q.X - p.X) ∧ (q.Y - p.Y) * (x - p.X) / (q.X - p.X) ≤ 0 ∧ q.Y - p.Y ≤ (q.Y - p.Y) * (x - p.X) / (q.X - p.X) := by
  obtain ⟨a, b, c, d, e, f⟩ := h
  have k1 : (q.Y - p.Y) * (x - p.X) ≤ 0 := Int.mul_nonpos_of_nonpos_of_nonneg (by omega) (by omega)
  have k2 : (q.Y - p.Y) * (q.X - p.X) ≤ (q.Y - p.Y) * (x - p.X) := Int.mul_le_mul_of_nonpos_left (by omega) (by omega)
  have k3 : -10000 * (q.X - p.X) ≤ (q.Y - p.Y) * (q.X - p.X) := Int.mul_le_mul_of_nonneg_right (by omega) (by omega)
  have g1 : (q.Y - p.Y) * (x - p.X) / (q.X - p.X) ≤ 0 := by
    have := Int.ediv_le_ediv (show 0 < q.X - p.X by omega) k1
    simpa using this
  have g2 : q.Y - p.Y ≤ (q.Y - p.Y) * (x - p.X) / (q.X - p.X) := by
    rw [Int.le_ediv_iff_mul_le (by omega)]; exact k2
  refine ⟨?_, g1, g2⟩
  unfold pieceS
  rw [wrap64 (show -9223372036854775808 ≤ q.Y - p.Y by omega) (by omega), wrap64 (show -9223372036854775808 ≤ x - p.X by omega) (by omega), wrap64 (show -9223372036854775808 ≤ q.X - p.X by omega) (by omega),
    wrap64 (show -9223372036854775808 ≤ (q.Y - p.Y) * (x - p.X) by omega) (by omega), flo_eq (by omega) (by omega) (by omega), wrap64 (by omega) (by omega)]
theorem piece_le {p q : Point} {x y : Int} (h : Piece p q) (h1 : p.X ≤ x) (hxy : x ≤ y) (h2 : y ≤ q.X) : pieceS p q y ≤ pieceS p q x := by
  rw [(piece_eq h (by omega) h2).1, (piece_eq h h1 (by omega)).1]
  have : (q.Y - p.Y) * (y - p.X) ≤ (q.Y - p.Y) * (x - p.X) := Int.mul_le_mul_of_nonpos_left (by have := h.2.1; omega) (by omega)
  have := Int.ediv_le_ediv (show 0 < q.X - p.X by have := h.1; omega) this
  omega
/-! falling points -/
theorem fall_spec {l : List Point} (h : fallS l = true) : ptsS l = true ∧ ∀ i, i < l.length → 0 ≤ (l.getD i z_Point).Y ∧ (l.getD i z_Point).Y ≤ 10000 ∧ (0 < i → (l.getD i z_Point).Y ≤ (l.getD (i - 1) z_Point).Y) := by
  simp only [fallS, Bool.and_eq_true, Option.isNone_iff_eq_none, fst_none] at h
  refine ⟨h.1, fun i hi => ?_⟩
  have := h.2 i hi
  simp only [badY, Bool.or_eq_false_iff, Bool.and_eq_false_iff, decide_eq_false_iff_not] at this
  obtain ⟨a, b, c⟩ := this
  refine ⟨by omega, by omega, fun h0 => ?_⟩
  rcases c with c | c <;> omega
theorem fall_le {l : List Point} (h : fallS l = true) {i j : Nat} (hij : i ≤ j) (hj : j < l.length) : (l.getD j z_Point).Y ≤ (l.getD i z_Point).Y := by
  obtain ⟨d, rfl⟩ : ∃ d, j = i + d := ⟨j - i, by omega⟩
  induction d with
  | zero => exact Int.le_refl _
  | succ d ih =>
    have h1 := ih (by omega) (by omega)
    have h2 := ((fall_spec h).2 (i + (d + 1)) hj).2.2 (by omega)
    rw [show i + (d + 1) - 1 = i + d by omega] at h2
    omega
theorem pts_le {l : List Point} (h : ptsS l = true) {i j : Nat} (hij : i ≤ j) (hj : j < l.length) : (l.getD i z_Point).X ≤ (l.getD j z_Point).X := by
  obtain ⟨d, rfl⟩ : ∃ d, j = i + d := ⟨j - i, by omega⟩
  induction d with
  | zero => exact Int.le_refl _
  | succ d ih =>
    have h1 := ih (by omega) (by omega)
    have h2 := ((pts_spec h).2.2 (i + (d + 1)) hj).2.2.2.2 (by omega)
    rw [show i + (d + 1) - 1 = i + d by omega] at h2
    omega
theorem fall_piece {l : List Point} (h : fallS l = true) {i : Nat} (hi : i + 1 < l.length) : Piece (l.getD i z_Point) (l.getD (i + 1) z_Point) := by
  have hp := (fall_spec h).1
  have a := (pts_spec hp).2.2 (i + 1) hi
  have b := (pts_spec hp).2.2 i (by omega)
  have c := (fall_spec h).2 (i + 1) hi
  have d := (fall_spec h).2 i (by omega)
  have e := a.2.2.2.2 (by omega)
  have f := c.2.2 (by omega)
  rw [Nat.add_sub_cancel] at e f
  exact ⟨e, f, c.1, d.2.1, b.1, a.2.1⟩
/-- in a piece -/
theorem at_piece {l : List Point} (h : fallS l = true) {x : Int} (h0 : ¬ x ≤ (l.getD 0 z_Point).X) (h1 : ¬ x ≥ (l.getD (l.length - 1) z_Point).X) :
    atV l x = pieceS (l.getD (seg l x) z_Point) (l.getD (seg l x + 1) z_Point) x ∧ (l.getD (seg l x + 1) z_Point).Y ≤ atV l x ∧ atV l x ≤ (l.getD (seg l x) z_Point).Y := by
  obtain ⟨s1, s2, s3, s4⟩ := seg_spec (fall_spec h).1 h0 h1
  have he : atV l x = pieceS (l.getD (seg l x) z_Point) (l.getD (seg l x + 1) z_Point) x := by
    unfold atV
    simp only [h0, h1, decide_false, cond_false]
  obtain ⟨a, b, c⟩ := piece_eq (fall_piece h s1) s4 (by omega)
  refine ⟨he, ?_, ?_⟩ <;> rw [he, a] <;> omega
theorem at_low {l : List Point} {x : Int} (h0 : x ≤ (l.getD 0 z_Point).X) : atV l x = (l.getD 0 z_Point).Y := by
  unfold atV; simp only [h0, decide_true, cond_true]
theorem at_high {l : List Point} {x : Int} (h0 : ¬ x ≤ (l.getD 0 z_Point).X) (h1 : x ≥ (l.getD (l.length - 1) z_Point).X) : atV l x = (l.getD (l.length - 1) z_Point).Y := by
  unfold atV; simp only [h0, h1, decide_true, decide_false, cond_true, cond_false]
theorem at_range {l : List Point} (h : fallS l = true) (x : Int) : 0 ≤ atV l x ∧ atV l x ≤ (l.getD 0 z_Point).Y := by
  have hl := (pts_spec (fall_spec h).1).1
  by_cases h0 : x ≤ (l.getD 0 z_Point).X
  · rw [at_low h0]
    exact ⟨((fall_spec h).2 0 (by omega)).1, Int.le_refl _⟩
  · by_cases h1 : x ≥ (l.getD (l.length - 1) z_Point).X
    · rw [at_high h0 h1]
      exact ⟨((fall_spec h).2 _ (by omega)).1, fall_le h (by omega) (by omega)⟩
    · obtain ⟨_, b, c⟩ := at_piece h h0 h1
      have s1 := (seg_spec (fall_spec h).1 h0 h1).1
      have d := ((fall_spec h).2 (seg l x + 1) s1).1
      have e := fall_le h (show 0 ≤ seg l x by omega) (by omega)
      omega
theorem at_mono {l : List Point} (h : fallS l = true) {x y : Int} (hxy : x ≤ y) : atV l y ≤ atV l x := by
  have hp := (fall_spec h).1
  have hl := (pts_spec hp).1
  by_cases h0 : x ≤ (l.getD 0 z_Point).X
  · rw [at_low h0]; exact (at_range h y).2
  · have h0' : ¬ y ≤ (l.getD 0 z_Point).X := by omega
    by_cases h1 : x ≥ (l.getD (l.length - 1) z_Point).X
    · rw [at_high h0 h1, at_high h0' (by omega)]; exact Int.le_refl _
    · obtain ⟨a, b, c⟩ := at_piece h h0 h1
      obtain ⟨s1, s2, s3, s4⟩ := seg_spec hp h0 h1
      by_cases h1' : y ≥ (l.getD (l.length - 1) z_Point).X
      · rw [at_high h0' h1']
        have := fall_le h (show seg l x + 1 ≤ l.length - 1 by omega) (by omega)
        omega
      · obtain ⟨a', b', c'⟩ := at_piece h h0' h1'
        obtain ⟨t1, t2, t3, t4⟩ := seg_spec hp h0' h1'
        by_cases hs : seg l x = seg l y
        · rw [a, a', ← hs]
          rw [← hs] at t3
          exact piece_le (fall_piece h s1) s4 hxy (by omega)
        · by_cases hlt : seg l x < seg l y
          · have := fall_le h (show seg l x + 1 ≤ seg l y by omega) (by omega)
            omega
          · have := pts_le hp (show seg l y + 1 ≤ seg l x by omega) (by omega)
            omega
theorem out_mono {ks : List GunKind} (h : ∀ i, i < ks.length → errK ks i = 0) (id : Int) {x y : Int} (hxy : x ≤ y) : outS (kindOf ks id) y ≤ outS (kindOf ks id) x ∧ 0 ≤ outS (kindOf ks id) y := by
  unfold kindOf
  cases hf : fst (fun j => (ks.getD j z_GunKind).ID == id) ks.length with
  | none => exact ⟨Int.le_refl 0, Int.le_refl 0⟩
  | some i =>
    have he := h i (fst_some.1 hf).1
    have hfall : fallS (ks.getD i z_GunKind).Output = true := by
      unfold errK at he
      cases hr : rangeK (ks.getD i z_GunKind) <;> cases hs : seenK ks i (ks.getD i z_GunKind).ID <;> cases hff : fallS (ks.getD i z_GunKind).Output <;> rw [hr, hs, hff] at he <;> first | rfl | cases he
    simp only [outS, atS, (fall_spec hfall).1, cond_true]
    exact ⟨at_mono hfall hxy, (at_range hfall y).1⟩
/-! the guns that are on -/
def cnt (l : List Gun) (i : Nat) : Nat := ((l.take i).filter onB).length
theorem cnt_step (l : List Gun) (i : Nat) (hi : i < l.length) : cnt l (i + 1) = cnt l i + bif onB (l.getD i z_Gun) then 1 else 0 := by
  unfold cnt
  rw [filt_step l i hi, List.length_append]
  cases onB (l.getD i z_Gun) <;> rfl
theorem cnt_at {l : List Gun} {i : Nat} (hi : i < l.length) (ho : onB (l.getD i z_Gun) = true) {α : Type} (f : Gun → α) (d : α) : cnt l i < ((l.filter onB).map f).length ∧ ((l.filter onB).map f).getD (cnt l i) d = f (l.getD i z_Gun) := by
  have h : l.filter onB = (l.take i).filter onB ++ (l.getD i z_Gun :: (l.drop (i + 1)).filter onB) := by
    have h1 : l = l.take (i + 1) ++ l.drop (i + 1) := (List.take_append_drop _ _).symm
    rw [show l.filter onB = (l.take (i + 1) ++ l.drop (i + 1)).filter onB by rw [← h1], List.filter_append, filt_step l i hi, ho, cond_true, List.append_assoc]
    rfl
  rw [h, List.map_append, List.map_cons]
  refine ⟨by simp [cnt], ?_⟩
  simp [cnt, List.getD, List.getElem?_append]
theorem t_GunWeather : AllW (fun y => y = some true) [TI.t_Park, TI.t_Arr2_51] (l42_GunWeather 2000) := fun (p : Park) _ (w : Arr2_51) _ => by
  show l42_GunWeather 2000 p w = some true
  unfold l42_GunWeather
  rw [alive_ok, right_eq (by omega)]
  cases hr : rightP p with
  | false => rfl
  | true =>
    obtain ⟨hk, hl, hK, _⟩ := right_zero (rightP_spec hr)
    have hmm : min w.a0 w.a1 ≤ max w.a0 w.a1 := by omega
    obtain ⟨x, hx⟩ : ∃ x, min w.a0 w.a1 = x := ⟨_, rfl⟩
    obtain ⟨y, hy⟩ : ∃ y, max w.a0 w.a1 = y := ⟨_, rfl⟩
    rw [hx, hy] at hmm
    simp only [hx, hy, Option.bind_some, Bool.not_true, cond_false, draws_eq (show 1000 < 2000 by omega) _ _ _ hk hl, needs_eq (show 1000 < 2000 by omega) _ _ hk hl, power_eq (show 1000 < 2000 by omega) _ _ hk hl hK]
    have la : (drawsS p.Kinds p.Guns x).length = cnt p.Guns p.Guns.length := by simp [drawsS, cnt]
    have lb : (drawsS p.Kinds p.Guns y).length = cnt p.Guns p.Guns.length := by simp [drawsS, cnt]
    have ln : (needsS p.Kinds p.Guns).length = cnt p.Guns p.Guns.length := by simp [needsS, cnt]
    have hcl : ∀ i, cnt p.Guns i ≤ i := fun i => filt_len p.Guns i
    refine (bindT (fun i => ((cnt p.Guns i : Int), (i : Int))) rfl (Sum.inl (cnt p.Guns p.Guns.length : Int)) p.Guns.length (by omega) (fun i hi => ?_) ?_).trans ?_
    · have hci := hcl i
      simp only [dlt hi, dge, Bool.and_self, cond_true, Int.toNat_natCast, wrapC (show i < 9223372036854775807 by omega), wrapC (show cnt p.Guns i < 9223372036854775807 by omega)]
      have hon : ((p.Guns.getD i z_Gun).State != 1) = !onB (p.Guns.getD i z_Gun) := rfl
      rw [hon, cnt_step p.Guns i hi]
      cases ho : onB (p.Guns.getD i z_Gun) with
      | false => rfl
      | true =>
        obtain ⟨a1, a2⟩ := cnt_at hi ho (fun g => Draw.mk g.Node (outS (kindOf p.Kinds g.Kind) x)) z_Draw
        obtain ⟨b1, b2⟩ := cnt_at hi ho (fun g => Draw.mk g.Node (outS (kindOf p.Kinds g.Kind) y)) z_Draw
        obtain ⟨n1, n2⟩ := cnt_at hi ho (fun g => Draw.mk g.Node (kindOf p.Kinds g.Kind).Pressure) z_Draw
        have a1' : cnt p.Guns i < (drawsS p.Kinds p.Guns x).length := a1
        have b1' : cnt p.Guns i < (drawsS p.Kinds p.Guns y).length := b1
        have n1' : cnt p.Guns i < (needsS p.Kinds p.Guns).length := n1
        have a2' : (drawsS p.Kinds p.Guns x).getD (cnt p.Guns i) z_Draw = _ := a2
        have b2' : (drawsS p.Kinds p.Guns y).getD (cnt p.Guns i) z_Draw = _ := b2
        have n2' : (needsS p.Kinds p.Guns).getD (cnt p.Guns i) z_Draw = _ := n2
        have c1 : decide ((cnt p.Guns i : Int) ≥ ((drawsS p.Kinds p.Guns x).length : Int)) = false := by simp; omega
        have c2 : decide ((cnt p.Guns i : Int) ≥ ((drawsS p.Kinds p.Guns y).length : Int)) = false := by simp; omega
        have c3 : decide ((cnt p.Guns i : Int) ≥ ((needsS p.Kinds p.Guns).length : Int)) = false := by simp; omega
        have om := out_mono hK (p.Guns.getD i z_Gun).Kind hmm
        have d1 : decide (outS (kindOf p.Kinds (p.Guns.getD i z_Gun).Kind) x < outS (kindOf p.Kinds (p.Guns.getD i z_Gun).Kind) y) = false := by rw [decide_eq_false_iff_not]; omega
        have d2 : decide (outS (kindOf p.Kinds (p.Guns.getD i z_Gun).Kind) y < 0) = false := by rw [decide_eq_false_iff_not]; omega
        simp only [Bool.not_true, cond_false, c1, c2, c3, dlt a1', dlt b1', dlt n1', Bool.and_self, cond_true, a2', b2', n2', bne_self_eq_false, d1, d2, Option.bind_some, Sum.elim_inl]
    · simp only [dnlt, cond_false]
    · have pb := pow_bound hK p.Guns
      have e1 : decide (powI p.Kinds p.Guns ≥ 0) = true := by simp; omega
      simp only [Sum.elim_inl, la, lb, ln, beq_self_eq_true, cond_true, e1]
      by_cases h0 : cnt p.Guns p.Guns.length = 0
      · have hz : powI p.Kinds p.Guns = 0 := by
          have : p.Guns.filter onB = [] := by
            unfold cnt at h0
            rw [List.take_length] at h0
            exact List.eq_nil_of_length_eq_zero h0
          simp [powI, this]
        simp [h0, hz]
      · have : decide ((cnt p.Guns p.Guns.length : Int) > 0) = true := by simp; omega
        simp only [this, cond_true, Option.bind_some]
end Go.Proofs.Ytenjellgjcofaaa
