/- The lift: what Move, Load and Take of the rope do, and that the line stays right. No condition. -/
import Derived.Test.YthjmbcnohgaihaaLif3
namespace Go.Proofs.Ythjmbcnohgaihaa
open Go.Cm Go.Proofs
/-! a line moves -/
def hitR (l : Line) (d : Int) (i : Nat) : Bool := decide (posR l i < l.Loop / 2) && decide (posR l i + d ≥ l.Loop / 2)
def ldR (l : Line) (d : Int) (i : Nat) : Int := bif hitR l d i then 0 else l.Load.getD i 0
def ldsR (l : Line) (d : Int) : List Int := (List.range l.Load.length).map (ldR l d)
def leftR (l : Line) (d : Int) : Nat → Int
  | 0 => 0
  | k + 1 => leftR l d k + bif hitR l d k then l.Load.getD k 0 else 0
def passR (l : Line) (d : Int) : Nat → Int
  | 0 => -1
  | k + 1 => bif decide (posR l k + d ≥ l.Loop) then (k : Int) else passR l d k
def moveR (l : Line) (d : Int) : Line := ⟨l.Loop, l.Spacing, (l.Offset + d) % l.Loop, ldsR l d⟩
theorem ldsR_len (l : Line) (d : Int) : (ldsR l d).length = l.Load.length := by simp [ldsR]
theorem ldsR_getD (l : Line) (d : Int) {i : Nat} (hi : i < l.Load.length) : (ldsR l d).getD i 0 = ldR l d i := by
  unfold ldsR
  rw [getD_map _ _ i 0 _ (by simp; exact hi)]
  simp [List.getD, List.getElem?_range hi]
theorem move_pos {l : Line} {s d : Int} (h : RopeOk l s) (h0 : 0 ≤ d) (h1 : d ≤ l.Spacing) (i : Nat) : posR (moveR l d) i = if posR l i + d < l.Loop then posR l i + d else posR l i + d - l.Loop := by
  have a := loop_bound h
  have b := pos_bound h i
  have c : l.Spacing ≤ l.Loop := by
    have := h.len
    have := h.spc
    rw [h.loop]
    have k : 1 * l.Spacing ≤ (l.Load.length : Int) * l.Spacing := Int.mul_le_mul_of_nonneg_right (by omega) (by omega)
    omega
  have e : posR (moveR l d) i = (posR l i + d) % l.Loop := by
    unfold posR moveR
    simp only
    rw [Int.emod_add_emod, Int.emod_add_emod]
    congr 1
    omega
  rw [e]
  split
  · exact Int.emod_eq_of_lt (by omega) (by omega)
  · rw [show posR l i + d = (posR l i + d - l.Loop) + l.Loop by omega, Int.add_emod_right, Int.emod_eq_of_lt (by omega) (by omega)]
    omega
theorem move_ok {l : Line} {s d : Int} (h : RopeOk l s) (h0 : 0 ≤ d) (h1 : d ≤ l.Spacing) : RopeOk (moveR l d) s := by
  have a := loop_bound h
  refine ⟨h.spc, ?_, ?_, h.even, ⟨Int.emod_nonneg _ (by omega), Int.emod_lt_of_pos _ (by omega)⟩, fun i hi => ?_⟩
  · show 1 ≤ (ldsR l d).length ∧ (ldsR l d).length ≤ 200
    rw [ldsR_len]
    exact h.len
  · show l.Loop = ((ldsR l d).length : Int) * l.Spacing
    rw [ldsR_len]
    exact h.loop
  · have hi' : i < l.Load.length := by
      have : (moveR l d).Load.length = l.Load.length := ldsR_len l d
      omega
    have q := h.load i hi'
    rw [move_pos h h0 h1]
    show 0 ≤ (ldsR l d).getD i 0 ∧ (ldsR l d).getD i 0 ≤ s ∧ ((ldsR l d).getD i 0 ≠ 0 → _ < l.Loop / 2)
    rw [ldsR_getD l d hi']
    unfold ldR
    cases hh : hitR l d i with
    | true =>
      simp only [cond_true]
      exact ⟨by omega, by omega, fun h => absurd rfl h⟩
    | false =>
      simp only [cond_false]
      refine ⟨q.1, q.2.1, fun hn => ?_⟩
      have q2 := q.2.2 hn
      unfold hitR at hh
      simp only [Bool.and_eq_false_iff, decide_eq_false_iff_not] at hh
      split <;> omega
theorem leftR_bound {l : Line} {s d : Int} (h : RopeOk l s) (k : Nat) (hk : k ≤ l.Load.length) : 0 ≤ leftR l d k ∧ leftR l d k ≤ s * k := by
  induction k with
  | zero => simp [leftR]
  | succ k ih =>
    have a := ih (by omega)
    have q := h.load k (by omega)
    unfold leftR
    rw [Int.natCast_add, Int.mul_add]
    cases hitR l d k with
    | true => simp only [cond_true]; omega
    | false => simp only [cond_false]; omega
theorem move_sum {l : Line} {d : Int} (k : Nat) (hk : k ≤ l.Load.length) : ((ldsR l d).take k).sum + leftR l d k = (l.Load.take k).sum := by
  induction k with
  | zero => simp [leftR]
  | succ k ih =>
    have a := ih (by omega)
    rw [sum_step0 _ k (by rw [ldsR_len]; omega), sum_step0 _ k (by omega), ldsR_getD l d (by omega)]
    unfold leftR ldR
    cases hitR l d k with
    | true => simp only [cond_true]; omega
    | false => simp only [cond_false]; omega
theorem move_people {l : Line} (d : Int) : peopleS (moveR l d) + leftR l d l.Load.length = peopleS l := by
  have := move_sum (l := l) (d := d) l.Load.length (Nat.le_refl _)
  rw [List.take_of_length_le (by rw [ldsR_len]; omega), List.take_length] at this
  exact this
theorem passR_spec {l : Line} {d : Int} (k : Nat) : passR l d k = -1 ∨ ∃ i : Nat, i < k ∧ passR l d k = i ∧ posR l i + d ≥ l.Loop := by
  induction k with
  | zero => exact .inl rfl
  | succ k ih =>
    unfold passR
    cases h : decide (posR l k + d ≥ l.Loop) with
    | true => exact .inr ⟨k, by omega, rfl, by simpa using h⟩
    | false =>
      rcases ih with h | ⟨i, a, b, c⟩
      · exact .inl h
      · exact .inr ⟨i, by omega, b, c⟩
/-! a carrier is loaded -/
def setR (l : Line) (i : Nat) (n : Int) : Line := ⟨l.Loop, l.Spacing, l.Offset, l.Load.set i n⟩
theorem set_ok {l : Line} {s : Int} (h : RopeOk l s) {i : Nat} (hi : i < l.Load.length) {n : Int} (h0 : 0 ≤ n) (h1 : n ≤ s) (hp : n ≠ 0 → posR l i < l.Loop / 2) : RopeOk (setR l i n) s := by
  refine ⟨h.spc, ?_, ?_, h.even, h.off, fun j hj => ?_⟩
  · show 1 ≤ (l.Load.set i n).length ∧ (l.Load.set i n).length ≤ 200
    rw [List.length_set]
    exact h.len
  · show l.Loop = ((l.Load.set i n).length : Int) * l.Spacing
    rw [List.length_set]
    exact h.loop
  · have hj' : j < l.Load.length := by
      have : (setR l i n).Load.length = l.Load.length := List.length_set
      omega
    show 0 ≤ (l.Load.set i n).getD j 0 ∧ (l.Load.set i n).getD j 0 ≤ s ∧ ((l.Load.set i n).getD j 0 ≠ 0 → posR l j < l.Loop / 2)
    rw [getD_set _ _ _ _ _ hi]
    split
    · next e => subst e; exact ⟨h0, h1, hp⟩
    · exact h.load j hj'
theorem sum_set (l : List Int) (i : Nat) (hi : i < l.length) (n : Int) : (l.set i n).sum = l.sum - l.getD i 0 + n := by
  induction l generalizing i with
  | nil => exact absurd hi (by simp)
  | cons a l ih =>
    cases i with
    | zero => simp [List.getD]; omega
    | succ i =>
      have := ih i (by simpa using hi)
      simp only [List.set_cons_succ, List.sum_cons, List.getD_cons_succ]
      omega
theorem set_people (l : Line) {i : Nat} (hi : i < l.Load.length) (n : Int) : peopleS (setR l i n) = peopleS l - l.Load.getD i 0 + n := sum_set l.Load i hi n
/-! the carrier that passed the lower station can be loaded -/
theorem pass_free {l : Line} {s d : Int} (h : RopeOk l s) (h0 : 0 ≤ d) (h1 : 2 * d ≤ l.Spacing) {i : Nat} (hi : i < l.Load.length) (hp : posR l i + d ≥ l.Loop) : posR (moveR l d) i < l.Spacing ∧ posR (moveR l d) i < l.Loop / 2 ∧ (moveR l d).Load.getD i 0 = 0 := by
  have a := loop_bound h
  have b := pos_bound h i
  have sp := h.spc
  have ev := h.even
  have c : l.Spacing ≤ l.Loop := by
    have := h.len
    rw [h.loop]
    have k : 1 * l.Spacing ≤ (l.Load.length : Int) * l.Spacing := Int.mul_le_mul_of_nonneg_right (by omega) (by omega)
    omega
  rw [move_pos h h0 (by omega), if_neg (by omega)]
  refine ⟨by omega, by omega, ?_⟩
  show (ldsR l d).getD i 0 = 0
  rw [ldsR_getD l d hi]
  unfold ldR
  have q := h.load i hi
  have : l.Load.getD i 0 = 0 := Decidable.byContradiction fun hn => by
    have := q.2.2 hn
    omega
  rw [this]
  cases hitR l d i <;> rfl
def takeR (l : Line) (i n : Int) : Line × Int := bif !(decide (i ≥ 0) && decide (i < (l.Load.length : Int))) then (z_Line, 8) else bif decide (n < 0) || decide (n > l.Load.getD i.toNat 0) then (z_Line, 2) else (setR l i.toNat (l.Load.getD i.toNat 0 - n), 0)
section
variable {N : Nat} (hN : 1000 < N)
omit hN in
theorem cloneI_eq (l : List Int) (hl : l.length ≤ 900) : sl_Clone_int N l = some l := by
  unfold sl_Clone_int
  have : (0 + l.length) * 8 ≤ 140737488355328 := by omega
  simp only [this, decide_true, cond_true]
theorem half_eq {l : Line} {s : Int} (h : RopeOk l s) : IntKind.i64.wrap (l.Loop.tdiv 2) = l.Loop / 2 := by
  have a := loop_bound h
  rw [Int.tdiv_eq_ediv_of_nonneg (by omega), wrap64 (by omega) (by omega)]
include hN
theorem move_eq {l : Line} {s d : Int} (h : RopeOk l s) (hs : s ≤ 16) (h0 : 0 ≤ d) (h1 : d ≤ l.Spacing) : rope_Move N l d = some (moveR l d, passR l d l.Load.length, leftR l d l.Load.length, 0) := by
  have a := loop_bound h
  have sp := h.spc
  have ln := h.len
  have of := h.off
  have c0 : (decide (d < 0) || decide (d > l.Spacing)) = false := by simp only [Bool.or_eq_false_iff, decide_eq_false_iff_not]; omega
  unfold rope_Move
  simp only [cond_or, Option.bind_some, c0, cond_false, cloneI_eq (N := N) l.Load (by omega), half_eq h]
  have hT := ldsR_len l d
  refine (bindT (fun i => (passR l d i, leftR l d i, (i : Int), mixd (ldsR l d) l.Load i)) (by simp [mixd_zero, passR, leftR]) (passR l d l.Load.length, leftR l d l.Load.length, ldsR l d) l.Load.length (show l.Load.length < N by omega) (fun i hi => ?_) ?_).trans ?_
  · have pb := pos_bound h i
    have lb := leftR_bound (d := d) h (i + 1) (by omega)
    have lb0 := leftR_bound (d := d) h i (by omega)
    have q := h.load i hi
    have sb : s * ((i + 1 : Nat) : Int) ≤ 16 * 200 := by
      have : 0 ≤ s := by omega
      exact Int.mul_le_mul hs (by omega) (by omega) (by omega)
    simp only [dlt hi, dge, mixd_len hT, mixd_getD hT hi, Bool.and_self, cond_true, Int.toNat_natCast, pos_eq N h hi, Option.bind_some, wrap64 (z := posR l i + d) (by omega) (by omega), cond_and, wrapC (show i < 9223372036854775807 by omega)]
    have e1 : (decide (posR l i < l.Loop / 2) && decide (posR l i + d ≥ l.Loop / 2)) = hitR l d i := rfl
    rw [e1]
    have e2 : ∀ x : Int, (bif decide (posR l i + d ≥ l.Loop) then some (i : Int) else some (passR l d i)) = some (passR l d (i + 1)) := fun _ => by
      show _ = some (bif decide (posR l i + d ≥ l.Loop) then (i : Int) else passR l d i)
      cases decide (posR l i + d ≥ l.Loop) <;> rfl
    cases hh : hitR l d i with
    | true =>
      have e3 : leftR l d (i + 1) = leftR l d i + l.Load.getD i 0 := by
        show leftR l d i + (bif hitR l d i then l.Load.getD i 0 else 0) = _
        rw [hh, cond_true]
      rw [e3] at lb
      simp only [cond_true, Option.bind_some, e2 0]
      rw [mixd_set hT hi 0 0 (by rw [ldsR_getD l d hi]; unfold ldR; rw [hh, cond_true]), wrap64 (by omega) (by omega), e3]
    | false =>
      have e3 : leftR l d (i + 1) = leftR l d i := by
        show leftR l d i + (bif hitR l d i then l.Load.getD i 0 else 0) = _
        rw [hh, cond_false, Int.add_zero]
      simp only [cond_false, Option.bind_some, e2 0]
      rw [← mixd_same hT hi 0 (by rw [ldsR_getD l d hi]; unfold ldR; rw [hh, cond_false]), e3]
  · simp only [dnlt, cond_false, mixd_all hT]
  · have n0 : (l.Loop != 0) = true := by rw [bne_iff_ne]; omega
    simp only [n0, cond_true]
    rw [wrap64 (by omega) (by omega), Int.tmod_eq_emod_of_nonneg (by omega)]
    rfl
omit hN in
theorem load_eq {l : Line} {s : Int} (h : RopeOk l s) (hs : s ≤ 16) {i : Nat} (hi : i < l.Load.length) {n : Int} (h0 : 0 ≤ n) (h1 : n ≤ s) (hp : posR l i < l.Spacing) (hp2 : posR l i < l.Loop / 2) (hz : l.Load.getD i 0 = 0) : rope_Load N l (i : Int) n s = some (setR l i n, 0) := by
  have ln := h.len
  unfold rope_Load
  have c1 : (decide ((i : Int) ≥ 0) && decide ((i : Int) < (l.Load.length : Int))) = true := by simp [hi]
  have c2 : decide (posR l i ≥ l.Spacing) = false := by rw [decide_eq_false_iff_not]; omega
  have c3 : decide (posR l i ≥ l.Loop / 2) = false := by rw [decide_eq_false_iff_not]; omega
  have c4 : decide (n < 0) = false := by rw [decide_eq_false_iff_not]; omega
  have c5 : decide (n > s) = false := by rw [decide_eq_false_iff_not]; omega
  have c6 : decide (s > 16) = false := by rw [decide_eq_false_iff_not]; omega
  simp only [exists_eq, c1, Option.bind_some, Bool.not_true, cond_false, pos_eq N h hi, half_eq h, c2, c3, dge, dlt hi, Bool.and_self, cond_true, Int.toNat_natCast, hz, bne_self_eq_false, c4, c5, c6, cloneI_eq (N := N) l.Load (by omega)]
  rfl
omit hN in
theorem take_eq {l : Line} {s : Int} (h : RopeOk l s) (hs : s ≤ 16) (i n : Int) : rope_Take N l i n = some (takeR l i n) := by
  have ln := h.len
  unfold rope_Take takeR
  simp only [exists_eq, Option.bind_some]
  cases c1 : (decide (i ≥ 0) && decide (i < (l.Load.length : Int))) with
  | false => rfl
  | true =>
    have c1' := c1
    simp only [Bool.and_eq_true, decide_eq_true_eq] at c1'
    have c2 : (decide (0 ≤ i) && decide (i < (l.Load.length : Int))) = true := by simp only [Bool.and_eq_true, decide_eq_true_eq]; omega
    have q := h.load i.toNat (by omega)
    simp only [Bool.not_true, cond_false, c2, cond_true, cond_or, Option.bind_some, cloneI_eq (N := N) l.Load (by omega)]
    cases c3 : (decide (n < 0) || decide (n > l.Load.getD i.toNat 0)) with
    | true => rfl
    | false =>
      simp only [Bool.or_eq_false_iff, decide_eq_false_iff_not] at c3
      simp only [cond_false]
      rw [wrap64 (by omega) (by omega)]
      rfl
end
end Go.Proofs.Ythjmbcnohgaihaa
