/- The lift: what the functions of the rope do. No condition. -/
import Derived.Test.YthjmbcnohgaihaaLif2
namespace Go.Proofs.Ythjmbcnohgaihaa
open Go.Cm Go.Proofs
def posR (l : Line) (i : Nat) : Int := (l.Offset + (i : Int) * l.Spacing) % l.Loop
structure RopeOk (l : Line) (seats : Int) : Prop where
  spc : 5000 ≤ l.Spacing ∧ l.Spacing ≤ 1000000
  len : 1 ≤ l.Load.length ∧ l.Load.length ≤ 200
  loop : l.Loop = (l.Load.length : Int) * l.Spacing
  even : l.Loop % 2 = 0
  off : 0 ≤ l.Offset ∧ l.Offset < l.Loop
  load : ∀ i, i < l.Load.length → 0 ≤ l.Load.getD i 0 ∧ l.Load.getD i 0 ≤ seats ∧ (l.Load.getD i 0 ≠ 0 → posR l i < l.Loop / 2)
def peopleS (l : Line) : Int := l.Load.sum
theorem loop_bound {l : Line} {s : Int} (h : RopeOk l s) : 5000 ≤ l.Loop ∧ l.Loop ≤ 200000000 := by
  have a := h.spc
  have b := h.len
  have k1 : 1 * 5000 ≤ (l.Load.length : Int) * l.Spacing := Int.mul_le_mul (by omega) (by omega) (by omega) (by omega)
  have k2 : (l.Load.length : Int) * l.Spacing ≤ 200 * 1000000 := Int.mul_le_mul (by omega) (by omega) (by omega) (by omega)
  rw [h.loop]
  omega
theorem mul_bound {l : Line} {s : Int} (h : RopeOk l s) {i : Nat} (hi : i < l.Load.length) : 0 ≤ (i : Int) * l.Spacing ∧ (i : Int) * l.Spacing ≤ 200000000 := by
  have a := h.spc
  have b := h.len
  have k1 : 0 ≤ (i : Int) * l.Spacing := Int.mul_nonneg (by omega) (by omega)
  have k2 : (i : Int) * l.Spacing ≤ 200 * 1000000 := Int.mul_le_mul (by omega) (by omega) (by omega) (by omega)
  omega
theorem pos_bound {l : Line} {s : Int} (h : RopeOk l s) (i : Nat) : 0 ≤ posR l i ∧ posR l i < l.Loop := by
  have := loop_bound h
  exact ⟨Int.emod_nonneg _ (by omega), Int.emod_lt_of_pos _ (by omega)⟩
theorem pos_eq (N : Nat) {l : Line} {s : Int} (h : RopeOk l s) {i : Nat} (hi : i < l.Load.length) : rope_position N l (i : Int) = some (posR l i) := by
  have a := loop_bound h
  have b := mul_bound h hi
  have c := h.off
  unfold rope_position posR
  have n0 : (l.Loop != 0) = true := by rw [bne_iff_ne]; omega
  rw [n0, cond_true, wrap64 (z := (i : Int) * l.Spacing) (by omega) (by omega), wrap64 (by omega) (by omega), Int.tmod_eq_emod_of_nonneg (by omega)]
theorem exists_eq (N : Nat) (l : Line) (i : Int) : rope_exists N l i = some (decide (i ≥ 0) && decide (i < (l.Load.length : Int))) := by
  unfold rope_exists
  simp only [cond_and, Option.bind_some]
theorem sum_step0 (l : List Int) (i : Nat) (hi : i < l.length) : (l.take (i + 1)).sum = (l.take i).sum + l.getD i 0 := by
  rw [take_getD l i 0 hi, List.sum_append]
  simp
theorem sum_le {l : List Int} {b : Int} (h : ∀ i, i < l.length → 0 ≤ l.getD i 0 ∧ l.getD i 0 ≤ b) (i : Nat) (hi : i ≤ l.length) : 0 ≤ (l.take i).sum ∧ (l.take i).sum ≤ b * i := by
  induction i with
  | zero => simp
  | succ i ih =>
    have a := ih (by omega)
    have q := h i (by omega)
    rw [sum_step0 l i (by omega), Int.natCast_add, Int.mul_add]
    omega
section
variable {N : Nat} (hN : 1000 < N)
include hN
theorem people_eq {l : Line} {s : Int} (h : RopeOk l s) (hs : s ≤ 16) : rope_People N l = some (peopleS l) := by
  have hl := h.len
  unfold rope_People peopleS
  refine (bindT (fun i => ((l.Load.take i).sum, (i : Int))) rfl l.Load.sum l.Load.length (show l.Load.length < N by omega) (fun i hi => ?_) ?_).trans rfl
  · have hb := sum_le (b := 16) (fun j hj => by have := h.load j hj; omega) (i + 1) (show i + 1 ≤ l.Load.length by omega)
    have e := sum_step0 l.Load i hi
    simp only [dlt hi, dge, Bool.and_self, cond_true, Int.toNat_natCast, wrapC (show i < 9223372036854775807 by omega)]
    rw [e] at hb ⊢
    rw [wrap64 (by omega) (by omega)]
  · simp only [dnlt, cond_false, List.take_length]
theorem ropeRight_eq (l : Line) (s : Int) : ∃ b, rope_Right N l s = some b ∧ (b = true ↔ RopeOk l s) := by
  unfold rope_Right
  simp only [cond_or, Option.bind_some]
  cases h1 : (decide (l.Spacing < 5000) || (decide (l.Spacing > 1000000) || (decide ((l.Load.length : Int) < 1) || decide ((l.Load.length : Int) > 200)))) with
  | true =>
    refine ⟨false, rfl, fun h => (by cases h), fun h => ?_⟩
    have a := h.spc
    have b := h.len
    simp only [Bool.or_eq_true, decide_eq_true_eq] at h1
    omega
  | false =>
    simp only [Bool.or_eq_false_iff, decide_eq_false_iff_not] at h1
    rw [cond_false]
    have k1 : 1 * 5000 ≤ (l.Load.length : Int) * l.Spacing := Int.mul_le_mul (by omega) (by omega) (by omega) (by omega)
    have k2 : (l.Load.length : Int) * l.Spacing ≤ 200 * 1000000 := Int.mul_le_mul (by omega) (by omega) (by omega) (by omega)
    rw [wrap64 (by omega) (by omega)]
    cases h2 : ((l.Loop != (l.Load.length : Int) * l.Spacing) || ((l.Loop.tmod 2 != 0) || (decide (l.Offset < 0) || decide (l.Offset ≥ l.Loop)))) with
    | true =>
      refine ⟨false, rfl, fun h => (by cases h), fun h => ?_⟩
      have a := h.loop
      have b := h.even
      have c := h.off
      have d := loop_bound h
      rw [Int.tmod_eq_emod_of_nonneg (by omega)] at h2
      simp only [Bool.or_eq_true, decide_eq_true_eq, bne_iff_ne] at h2
      omega
    | false =>
      simp only [Bool.or_eq_false_iff, decide_eq_false_iff_not, bne_eq_false_iff_eq] at h2
      obtain ⟨e1, e2, e3, e4⟩ := h2
      rw [Int.tmod_eq_emod_of_nonneg (by omega)] at e2
      rw [cond_false]
      have hpos : ∀ i, i < l.Load.length → rope_position N l (i : Int) = some (posR l i) := fun i hi => by
        have b1 : 0 ≤ (i : Int) * l.Spacing := Int.mul_nonneg (by omega) (by omega)
        have b2 : (i : Int) * l.Spacing ≤ 200 * 1000000 := Int.mul_le_mul (by omega) (by omega) (by omega) (by omega)
        unfold rope_position posR
        have n0 : (l.Loop != 0) = true := by rw [bne_iff_ne]; omega
        rw [n0, cond_true, wrap64 (z := (i : Int) * l.Spacing) (by omega) (by omega), wrap64 (by omega) (by omega), Int.tmod_eq_emod_of_nonneg (by omega)]
      have hhalf : IntKind.i64.wrap (l.Loop.tdiv 2) = l.Loop / 2 := by rw [Int.tdiv_eq_ediv_of_nonneg (by omega), wrap64 (by omega) (by omega)]
      rw [search (fun i => (decide (l.Load.getD i 0 < 0) || decide (l.Load.getD i 0 > s)) || (l.Load.getD i 0 != 0 && decide (posR l i ≥ l.Loop / 2))) (fun _ => false) () l.Load.length (by omega) (fun i hi => ?_) (by simp)]
      · cases hf : fst (fun i => (decide (l.Load.getD i 0 < 0) || decide (l.Load.getD i 0 > s)) || (l.Load.getD i 0 != 0 && decide (posR l i ≥ l.Loop / 2))) l.Load.length with
        | some i =>
          refine ⟨false, rfl, fun h => (by cases h), fun h => ?_⟩
          obtain ⟨a, b, _⟩ := fst_some.1 hf
          have q := h.load i a
          simp only [Bool.or_eq_true, Bool.and_eq_true, decide_eq_true_eq, bne_iff_ne] at b
          rcases b with b | ⟨b, c⟩
          · omega
          · have := q.2.2 b
            omega
        | none =>
          refine ⟨true, rfl, fun _ => ⟨by omega, by omega, e1, e2, by omega, fun i hi => ?_⟩, fun _ => rfl⟩
          have := fst_none.1 hf i hi
          simp only [Bool.or_eq_false_iff, Bool.and_eq_false_iff, decide_eq_false_iff_not, bne_eq_false_iff_eq] at this
          obtain ⟨a, b⟩ := this
          refine ⟨by omega, by omega, fun h0 => ?_⟩
          rcases b with b | b
          · exact absurd b h0
          · omega
      · simp only [dlt hi, dge, Bool.and_self, cond_true, Int.toNat_natCast, hpos i hi, hhalf, Option.bind_some, wrapN (show i < 9223372036854775807 by omega), cond_and]
        cases (decide (l.Load.getD i 0 < 0) || decide (l.Load.getD i 0 > s)) <;> rfl
end
end Go.Proofs.Ythjmbcnohgaihaa
