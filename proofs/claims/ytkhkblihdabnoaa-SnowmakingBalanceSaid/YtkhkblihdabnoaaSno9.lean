/- Snowmaking: bounds of what guns draw (taken out of the texts on guns). No condition. -/
import Derived.Test.YtkhkblihdabnoaaSno1
namespace Go.Proofs.Ytkhkblihdabnoaa.Gn
open Go.Cm Go.Proofs
set_option linter.unusedSectionVars false
theorem flo_eq {a b : Int} (hb : 0 < b) (h1 : -4000000000000000000 ≤ a) (h2 : a ≤ 4000000000000000000) : floS a b = a / b := by
  have hlo : -4000000000000000001 ≤ a / b := by
    have h := Int.ediv_le_ediv hb h1
    have h3 : (-4000000000000000000 : Int) ≤ -4000000000000000000 / b := by
      rw [Int.le_ediv_iff_mul_le hb]
      have : (4000000000000000000 : Int) * 1 ≤ 4000000000000000000 * b := Int.mul_le_mul_of_nonneg_left (by omega) (by omega)
      omega
    omega
  have hhi : a / b ≤ 4000000000000000000 := by
    have h := Int.ediv_le_ediv hb h2
    have h3 : (4000000000000000000 : Int) / b ≤ 4000000000000000000 := Int.ediv_le_self _ (by omega)
    omega
  have hm := Int.emod_nonneg a (show b ≠ 0 by omega)
  have hm2 := Int.emod_lt_of_pos a hb
  unfold floS
  rw [Int.tmod_eq_emod, Int.tdiv_eq_ediv]
  have hs : b.sign = 1 := Int.sign_eq_one_of_pos hb
  have hn : (b.natAbs : Int) = b := by omega
  rw [hs]
  by_cases hc : 0 ≤ a ∨ b ∣ a
  · rw [if_pos hc, if_pos hc]
    have : decide (a % b - ((0 : Nat) : Int) < 0) = false := by simp; omega
    rw [this, cond_false, wrap64 (by omega) (by omega)]
    omega
  · rw [if_neg hc, if_neg hc]
    have : decide (a % b - (b.natAbs : Int) < 0) = true := by simp; omega
    rw [this, cond_true, wrap64 (show -9223372036854775808 ≤ a / b + 1 by omega) (by omega), wrap64 (by omega) (by omega)]
    omega
def Piece (p q : Point) : Prop := p.X < q.X ∧ q.Y ≤ p.Y ∧ 0 ≤ q.Y ∧ p.Y ≤ 10000 ∧ -1000000000 ≤ p.X ∧ q.X ≤ 1000000000
theorem piece_eq {p q : Point} {x : Int} (h : Piece p q) (h1 : p.X ≤ x) (h2 : x ≤ q.X) : pieceS p q x = p.Y + (q.Y - p.Y) * (x - p.X) / (q.X - p.X) ∧ (q.Y - p.Y) * (x - p.X) / (q.X - p.X) ≤ 0 ∧ q.Y - p.Y ≤ (q.Y - p.Y) * (x - p.X) / (q.X - p.X) := by
  obtain ⟨a, b, c, d, e, f⟩ := h
  have k1 : (q.Y - p.Y) * (x - p.X) ≤ 0 := Int.mul_nonpos_of_nonpos_of_nonneg (by omega) (by omega)
  have k2 : (q.Y - p.Y) * (q.X - p.X) ≤ (q.Y - p.Y) * (x - p.X) := Int.mul_le_mul_of_nonpos_left (by omega) (by omega)
  have k3 : -10000 * (q.X - p.X) ≤ (q.Y - p.Y) * (q.X - p.X) := Int.mul_le_mul_of_nonneg_right (by omega) (by omega)
  have g1 : (q.Y - p.Y) * (x - p.X) / (q.X - p.X) ≤ 0 := by
    have := Int.ediv_le_ediv (show 0 < q.X - p.X by omega) k1
    simpa using this
  have g2 : q.Y - p.Y ≤ (q.Y - p.Y) * (x - p.X) / (q.X - p.X) := by
    rw [Int.le_ediv_iff_mul_le (by omega)]; exact k2
  refine ⟨?_, g1, g2⟩
  unfold pieceS
  rw [wrap64 (show -9223372036854775808 ≤ q.Y - p.Y by omega) (by omega), wrap64 (show -9223372036854775808 ≤ x - p.X by omega) (by omega), wrap64 (show -9223372036854775808 ≤ q.X - p.X by omega) (by omega),
    wrap64 (show -9223372036854775808 ≤ (q.Y - p.Y) * (x - p.X) by omega) (by omega), flo_eq (by omega) (by omega) (by omega), wrap64 (by omega) (by omega)]
theorem fall_spec {l : List Point} (h : fallS l = true) : ptsS l = true ∧ ∀ i, i < l.length → 0 ≤ (l.getD i z_Point).Y ∧ (l.getD i z_Point).Y ≤ 10000 ∧ (0 < i → (l.getD i z_Point).Y ≤ (l.getD (i - 1) z_Point).Y) := by
  simp only [fallS, Bool.and_eq_true, Option.isNone_iff_eq_none, fst_none] at h
  refine ⟨h.1, fun i hi => ?_⟩
  have := h.2 i hi
  simp only [badY, Bool.or_eq_false_iff, Bool.and_eq_false_iff, decide_eq_false_iff_not] at this
  obtain ⟨a, b, c⟩ := this
  refine ⟨by omega, by omega, fun h0 => ?_⟩
  rcases c with c | c <;> omega
theorem fall_le {l : List Point} (h : fallS l = true) {i j : Nat} (hij : i ≤ j) (hj : j < l.length) : (l.getD j z_Point).Y ≤ (l.getD i z_Point).Y := by
  obtain ⟨d, rfl⟩ : ∃ d, j = i + d := ⟨j - i, by omega⟩
  induction d with
  | zero => exact Int.le_refl _
  | succ d ih =>
    have h1 := ih (by omega) (by omega)
    have h2 := ((fall_spec h).2 (i + (d + 1)) hj).2.2 (by omega)
    rw [show i + (d + 1) - 1 = i + d by omega] at h2
    omega
theorem pts_le {l : List Point} (h : ptsS l = true) {i j : Nat} (hij : i ≤ j) (hj : j < l.length) : (l.getD i z_Point).X ≤ (l.getD j z_Point).X := by
  obtain ⟨d, rfl⟩ : ∃ d, j = i + d := ⟨j - i, by omega⟩
  induction d with
  | zero => exact Int.le_refl _
  | succ d ih =>
    have h1 := ih (by omega) (by omega)
    have h2 := ((pts_spec h).2.2 (i + (d + 1)) hj).2.2.2.2 (by omega)
    rw [show i + (d + 1) - 1 = i + d by omega] at h2
    omega
theorem fall_piece {l : List Point} (h : fallS l = true) {i : Nat} (hi : i + 1 < l.length) : Piece (l.getD i z_Point) (l.getD (i + 1) z_Point) := by
  have hp := (fall_spec h).1
  have a := (pts_spec hp).2.2 (i + 1) hi
  have b := (pts_spec hp).2.2 i (by omega)
  have c := (fall_spec h).2 (i + 1) hi
  have d := (fall_spec h).2 i (by omega)
  have e := a.2.2.2.2 (by omega)
  have f := c.2.2 (by omega)
  rw [Nat.add_sub_cancel] at e f
  exact ⟨e, f, c.1, d.2.1, b.1, a.2.1⟩
theorem at_piece {l : List Point} (h : fallS l = true) {x : Int} (h0 : ¬ x ≤ (l.getD 0 z_Point).X) (h1 : ¬ x ≥ (l.getD (l.length - 1) z_Point).X) :
    atV l x = pieceS (l.getD (seg l x) z_Point) (l.getD (seg l x + 1) z_Point) x ∧ (l.getD (seg l x + 1) z_Point).Y ≤ atV l x ∧ atV l x ≤ (l.getD (seg l x) z_Point).Y := by
  obtain ⟨s1, s2, s3, s4⟩ := seg_spec (fall_spec h).1 h0 h1
  have he : atV l x = pieceS (l.getD (seg l x) z_Point) (l.getD (seg l x + 1) z_Point) x := by
    unfold atV
    simp only [h0, h1, decide_false, cond_false]
  obtain ⟨a, b, c⟩ := piece_eq (fall_piece h s1) s4 (by omega)
  refine ⟨he, ?_, ?_⟩ <;> rw [he, a] <;> omega
theorem at_low {l : List Point} {x : Int} (h0 : x ≤ (l.getD 0 z_Point).X) : atV l x = (l.getD 0 z_Point).Y := by
  unfold atV; simp only [h0, decide_true, cond_true]
theorem at_high {l : List Point} {x : Int} (h0 : ¬ x ≤ (l.getD 0 z_Point).X) (h1 : x ≥ (l.getD (l.length - 1) z_Point).X) : atV l x = (l.getD (l.length - 1) z_Point).Y := by
  unfold atV; simp only [h0, h1, decide_true, decide_false, cond_true, cond_false]
theorem at_range {l : List Point} (h : fallS l = true) (x : Int) : 0 ≤ atV l x ∧ atV l x ≤ (l.getD 0 z_Point).Y := by
  have hl := (pts_spec (fall_spec h).1).1
  by_cases h0 : x ≤ (l.getD 0 z_Point).X
  · rw [at_low h0]
    exact ⟨((fall_spec h).2 0 (by omega)).1, Int.le_refl _⟩
  · by_cases h1 : x ≥ (l.getD (l.length - 1) z_Point).X
    · rw [at_high h0 h1]
      exact ⟨((fall_spec h).2 _ (by omega)).1, fall_le h (by omega) (by omega)⟩
    · obtain ⟨_, b, c⟩ := at_piece h h0 h1
      have s1 := (seg_spec (fall_spec h).1 h0 h1).1
      have d := ((fall_spec h).2 (seg l x + 1) s1).1
      have e := fall_le h (show 0 ≤ seg l x by omega) (by omega)
      omega
theorem range_spec {g : Gun} (h : inRangeS g = true) : 1 ≤ g.ID ∧ g.ID ≤ 9999 ∧ 1 ≤ g.Node ∧ g.Node ≤ 9999 ∧ 1 ≤ g.Run ∧ g.Run ≤ 9999 ∧ 0 ≤ g.On ∧ g.On ≤ 86400 ∧ 0 ≤ g.Off ∧ g.Off ≤ 86400 ∧ 0 ≤ g.State ∧ g.State ≤ 2 ∧ 0 ≤ g.Since ∧ g.Since ≤ 20000000 := by
  simp only [inRangeS, Bool.and_eq_true, Bool.not_eq_true', Bool.or_eq_false_iff, decide_eq_true_eq, decide_eq_false_iff_not] at h
  omega
theorem range_of {g : Gun} (h : 1 ≤ g.ID ∧ g.ID ≤ 9999 ∧ 1 ≤ g.Node ∧ g.Node ≤ 9999 ∧ 1 ≤ g.Run ∧ g.Run ≤ 9999 ∧ 0 ≤ g.On ∧ g.On ≤ 86400 ∧ 0 ≤ g.Off ∧ g.Off ≤ 86400 ∧ 0 ≤ g.State ∧ g.State ≤ 2 ∧ 0 ≤ g.Since ∧ g.Since ≤ 20000000) : inRangeS g = true := by
  simp only [inRangeS, Bool.and_eq_true, Bool.not_eq_true', Bool.or_eq_false_iff, decide_eq_true_eq, decide_eq_false_iff_not]
  omega
theorem bec_did (g : Gun) (st t least : Int) (h : inRangeS g = true) (hl : 0 ≤ least ∧ least ≤ 86400) :
    ((becS g st t least).1 = z_Gun ∧ (becS g st t least).2 ≠ 0) ∨ becS g st t least = (Gun.mk g.ID g.Node g.Run g.Kind st t g.On g.Off, 0) ∧ g.Since ≤ t ∧ t ≤ 20000000 ∧ g.Since + least ≤ t := by
  have hr := range_spec h
  unfold becS
  rw [wrap64 (by omega) (by omega)]
  by_cases h1 : t < g.Since
  · left; simp [h1]
  · by_cases h2 : t > 20000000
    · left; simp [h1, h2]
    · by_cases h3 : t < g.Since + least
      · left; simp [h1, h2, h3]
      · right; simp [h1, h2, h3]; omega
theorem kindOf_pow {ks : List GunKind} (h : ∀ i, i < ks.length → errK ks i = 0) (id : Int) : 0 ≤ (kindOf ks id).Power ∧ (kindOf ks id).Power ≤ 1000000 := by
  unfold kindOf
  cases hf : fst (fun j => (ks.getD j z_GunKind).ID == id) ks.length with
  | none => exact ⟨Int.le_refl 0, show (0 : Int) ≤ 1000000 by decide⟩
  | some i =>
    have := h i (fst_some.1 hf).1
    unfold errK at this
    cases hr : rangeK (ks.getD i z_GunKind) with
    | true => rw [hr] at this; cases this
    | false =>
      simp only [rangeK, Bool.or_eq_false_iff, decide_eq_false_iff_not] at hr
      simp only
      omega
theorem pow_step (ks : List GunKind) (l : List Gun) (i : Nat) (hi : i < l.length) : powI ks (l.take (i + 1)) = powI ks (l.take i) + bif onB (l.getD i z_Gun) then (kindOf ks (l.getD i z_Gun).Kind).Power else 0 := by
  unfold powI
  rw [filt_step l i hi, List.map_append, List.sum_append]
  cases onB (l.getD i z_Gun) <;> simp
theorem pow_bound {ks : List GunKind} (h : ∀ i, i < ks.length → errK ks i = 0) (l : List Gun) : 0 ≤ powI ks l ∧ powI ks l ≤ 1000000 * l.length := by
  unfold powI
  induction l with
  | nil => simp
  | cons g l ih =>
    have hp := kindOf_pow h g.Kind
    cases hg : onB g
    · rw [List.filter_cons_of_neg (by simp [hg])]
      simp only [List.length_cons]; omega
    · rw [List.filter_cons_of_pos (by simp [hg])]
      simp only [List.length_cons, List.map_cons, List.sum_cons]; omega
section
variable {N : Nat} (hN : 1000 < N)
include hN
theorem power_eq (ks : List GunKind) (l : List Gun) (hk : ks.length ≤ 64) (hl : l.length ≤ 64) (h : ∀ i, i < ks.length → errK ks i = 0) : gun_Power N ks l = some (powI ks l) := by
  unfold gun_Power
  refine (bindT (fun i => (powI ks (l.take i), (i : Int))) rfl (powI ks l) l.length (show l.length < N by omega) (fun i hi => ?_) ?_).trans rfl
  · simp only [dlt hi, dge, Bool.and_self, cond_true, Int.toNat_natCast, gkind_eq hN ks _ hk, Option.bind_some, wrapC (show i < 9223372036854775807 by omega)]
    have hb := pow_bound h (l.take i)
    have hp := kindOf_pow h (l.getD i z_Gun).Kind
    have hlen : (l.take i).length ≤ 64 := by simp; omega
    rw [pow_step ks l i hi, wrap64 (by omega) (by omega)]
    have ho : ((l.getD i z_Gun).State == 1) = onB (l.getD i z_Gun) := rfl
    rw [ho]
    cases onB (l.getD i z_Gun)
    · simp
    · rfl
  · simp only [dnlt, cond_false, List.take_length]
end
theorem out_range {ks : List GunKind} (h : ∀ i, i < ks.length → errK ks i = 0) (id x : Int) : 0 ≤ outS (kindOf ks id) x ∧ outS (kindOf ks id) x ≤ 10000 := by
  unfold kindOf
  cases hf : fst (fun j => (ks.getD j z_GunKind).ID == id) ks.length with
  | none => exact ⟨Int.le_refl 0, show (0 : Int) ≤ 10000 by decide⟩
  | some i =>
    have he := h i (fst_some.1 hf).1
    have hfall : fallS (ks.getD i z_GunKind).Output = true := by
      unfold errK at he
      cases hr : rangeK (ks.getD i z_GunKind) <;> cases hs : seenK ks i (ks.getD i z_GunKind).ID <;> cases hff : fallS (ks.getD i z_GunKind).Output <;> rw [hr, hs, hff] at he <;> first | rfl | cases he
    simp only [outS, atS, (fall_spec hfall).1, cond_true]
    have h1 := at_range hfall x
    have h2 := ((fall_spec hfall).2 0 (by have := (pts_spec (fall_spec hfall).1).1; omega)).2.1
    omega
theorem right_of {ks : List GunKind} {l : List Gun} (h1 : ks.length ≤ 64) (h2 : l.length ≤ 64) (h3 : ∀ i, i < ks.length → errK ks i = 0) (h4 : ∀ i, i < l.length → errG ks l i = 0) : rightS ks l = 0 := by
  unfold rightS
  have hq : (decide ((ks.length : Int) > 64) || decide ((l.length : Int) > 64)) = false := by simp only [Bool.or_eq_false_iff, decide_eq_false_iff_not]; omega
  rw [hq, cond_false, fst_none.2 fun i hi => by simp [h3 i hi]]
  simp only
  rw [fst_none.2 fun i hi => by simp [h4 i hi]]
end Go.Proofs.Ytkhkblihdabnoaa.Gn
