/- Snowmaking: what the functions of the ponds compute, in plain words (taken out of the texts on ponds). No condition. -/
import Derived.Test.YtkhkblihdabnoaaFn6
import Derived.Test.YtkhkblihdabnoaaCmq
namespace Go.Proofs.Ytkhkblihdabnoaa.Pn
open Go.Cm Go.Proofs
set_option linter.unusedSectionVars false
def rangeP (p : Pond) : Bool :=
  (decide (p.ID < 1) || (decide (p.ID > 9999) || (decide (p.Inflow < 0) || decide (p.Inflow > 10000000)))) || (decide (p.Least < 0) || (decide (p.Volume < p.Least) || (decide (p.Most < p.Volume) || decide (p.Most > 1000000000))))
def seenP (l : List Pond) (i : Nat) (u : Int) : Bool := (fst (fun j => (l.getD j z_Pond).ID == u) i).isSome
def errP (l : List Pond) (i : Nat) : Int := bif rangeP (l.getD i z_Pond) then 2 else bif seenP l i (l.getD i z_Pond).ID then 7 else 0
def rightS (l : List Pond) : Int := bif decide ((l.length : Int) > 8) then 4 else match fst (fun i => errP l i != 0) l.length with
  | some i => errP l i
  | none => 0
def seenF (l : List Pond) (i : Nat) : Int → Option Bool := fun u => bif seenP l i u then some true else none
theorem seenF_get (l : List Pond) (i : Nat) (u : Int) : (seenF l i u).getD false = seenP l i u := by unfold seenF; cases seenP l i u <;> rfl
theorem seenF_step (l : List Pond) (i : Nat) : (fun u : Int => bif u == (l.getD i z_Pond).ID then some true else seenF l i u) = seenF l (i + 1) := by
  funext u
  have h : seenP l (i + 1) u = (seenP l i u || ((l.getD i z_Pond).ID == u)) := fst_succ _ _
  have h2 : (u == (l.getD i z_Pond).ID) = ((l.getD i z_Pond).ID == u) := BEq.comm
  unfold seenF
  rw [h, h2]
  cases seenP l i u <;> cases (l.getD i z_Pond).ID == u <;> rfl
def fillW (p : Pond) (x : Int) : Int := min (IntKind.i64.wrap ((IntKind.i64.wrap (p.Inflow * x)).tdiv 3600)) (IntKind.i64.wrap (p.Most - p.Volume))
def fillP (x : Int) (p : Pond) : Pond := Pond.mk p.ID (IntKind.i64.wrap (p.Volume + fillW p x)) p.Least p.Most p.Inflow
def sumW (l : List Pond) (x : Int) : Int := l.foldl (fun a p => IntKind.i64.wrap (a + fillW p x)) 0
theorem sumW_step (l : List Pond) (x : Int) (i : Nat) (hi : i < l.length) : sumW (l.take (i + 1)) x = IntKind.i64.wrap (sumW (l.take i) x + fillW (l.getD i z_Pond) x) := by
  unfold sumW
  rw [take_getD l i z_Pond hi, List.foldl_append]
  rfl
def fillS (l : List Pond) (x : Int) : List Pond × Int × Int := bif decide (x < 0) || decide (x > 86400) then ([], 0, 2) else (l.map (fillP x), sumW l x, 0)
section
variable {N : Nat}
theorem clone_eq (l : List Pond) (hl : l.length ≤ 900) : sl_Clone_Pond N l = some l := by
  unfold sl_Clone_Pond
  have : (0 + l.length) * 40 ≤ 140737488355328 := by omega
  simp only [this, decide_true, cond_true]
end
section
variable {N : Nat} (hN : 1000 < N)
include hN
theorem pright_eq (l : List Pond) : pond_Right N l = some (rightS l) := by
  unfold pond_Right rightS
  cases hq : decide ((l.length : Int) > 8) with
  | true => rfl
  | false =>
    have hl : l.length ≤ 8 := by simp at hq; omega
    rw [cond_false]
    refine (bindS (fun i => ((i : Int), seenF l i)) rfl (fun i => errP l i != 0) (fun i => (errP l i, seenF l i)) (seenF l l.length) l.length (show l.length < N by omega) (fun i hi _ => ?_) (fun _ => ?_)).trans ?_
    · simp only [dlt hi, dge, Bool.and_self, cond_true, Int.toNat_natCast, cond_or, Option.bind_some, seenF_get, wrapC (show i < 9223372036854775807 by omega), seenF_step, cond_or2]
      have hr : ((decide ((l.getD i z_Pond).ID < 1) || (decide ((l.getD i z_Pond).ID > 9999) || (decide ((l.getD i z_Pond).Inflow < 0) || decide ((l.getD i z_Pond).Inflow > 10000000)))) ||
        (decide ((l.getD i z_Pond).Least < 0) || (decide ((l.getD i z_Pond).Volume < (l.getD i z_Pond).Least) || (decide ((l.getD i z_Pond).Most < (l.getD i z_Pond).Volume) || decide ((l.getD i z_Pond).Most > 1000000000))))) = rangeP (l.getD i z_Pond) := rfl
      rw [hr]
      unfold errP
      cases rangeP (l.getD i z_Pond) <;> cases seenP l i (l.getD i z_Pond).ID <;> rfl
    · simp only [dnlt, cond_false]
    · cases fst (fun i => errP l i != 0) l.length <;> rfl
theorem fill_eq (l : List Pond) (x : Int) (hl : l.length ≤ 8) : pond_Fill N l x = some (fillS l x) := by
  unfold pond_Fill fillS
  rw [cond_or, Option.bind_some]
  cases hq : (decide (x < 0) || decide (x > 86400)) with
  | true => rfl
  | false =>
    rw [cond_false, clone_eq l (by omega), Option.bind_some]
    have hm : (l.map (fillP x)).length = l.length := by simp
    refine (bindT (fun i => (sumW (l.take i) x, (i : Int), mixd (l.map (fillP x)) l i)) (by simp [mixd_zero, sumW]) (sumW l x, l.map (fillP x)) l.length (show l.length < N by omega) (fun i hi => ?_) ?_).trans rfl
    · simp only [dlt hi, dge, Bool.and_self, cond_true, Int.toNat_natCast, mixd_len hm, mixd_getD hm hi, Option.bind_some, wrapC (show i < 9223372036854775807 by omega)]
      rw [sumW_step l x i hi, ← mixd_set hm hi (fillP x (l.getD i z_Pond)) z_Pond (getD_map _ _ _ _ _ hi).symm]
      rfl
    · have := mixd_all hm
      simp only [dnlt, cond_false, List.take_length, this]
end
def PondOk (p : Pond) : Prop := 1 ≤ p.ID ∧ p.ID ≤ 9999 ∧ 0 ≤ p.Inflow ∧ p.Inflow ≤ 10000000 ∧ 0 ≤ p.Least ∧ p.Least ≤ p.Volume ∧ p.Volume ≤ p.Most ∧ p.Most ≤ 1000000000
theorem range_iff (p : Pond) : rangeP p = false ↔ PondOk p := by
  unfold rangeP PondOk
  simp only [Bool.or_eq_false_iff, decide_eq_false_iff_not]
  omega
theorem right_iff (l : List Pond) : rightS l = 0 ↔ l.length ≤ 8 ∧ ∀ i, i < l.length → PondOk (l.getD i z_Pond) ∧ seenP l i (l.getD i z_Pond).ID = false := by
  unfold rightS
  cases hq : decide ((l.length : Int) > 8) with
  | true =>
    have : ¬ l.length ≤ 8 := by simp at hq; omega
    simp [this]
  | false =>
    have hl : l.length ≤ 8 := by simp at hq; omega
    have he : ∀ i, errP l i = 0 ↔ PondOk (l.getD i z_Pond) ∧ seenP l i (l.getD i z_Pond).ID = false := fun i => by
      rw [← range_iff]
      unfold errP
      cases rangeP (l.getD i z_Pond) <;> cases seenP l i (l.getD i z_Pond).ID <;> simp
    rw [cond_false]
    cases hf : fst (fun i => errP l i != 0) l.length with
    | some i =>
      obtain ⟨a, b, _⟩ := fst_some.1 hf
      have hne : errP l i ≠ 0 := by simpa using b
      simp only
      exact ⟨fun h => absurd h hne, fun h => (he i).2 (h.2 i a)⟩
    | none =>
      simp only [true_iff]
      exact ⟨hl, fun i hi => (he i).1 (by simpa using fst_none.1 hf i hi)⟩
theorem right_all {l : List Pond} (h : rightS l = 0) : ∀ p, p ∈ l → PondOk p := fun p hp => by
  obtain ⟨i, hi, rfl⟩ := mem_getD z_Pond hp
  exact (((right_iff l).1 h).2 i hi).1
def totI (l : List Pond) : Int := (l.map fun p => p.Volume).sum
def spaI (l : List Pond) : Int := (l.map fun p => p.Volume - p.Least).sum
theorem sum_bound {α : Type} (f : α → Int) (b : Int) (l : List α) (h : ∀ p, p ∈ l → 0 ≤ f p ∧ f p ≤ b) : 0 ≤ (l.map f).sum ∧ (l.map f).sum ≤ b * l.length := by
  induction l with
  | nil => simp
  | cons p l ih =>
    have h1 := h p (List.mem_cons_self ..)
    have h2 := ih fun q hq => h q (List.mem_cons_of_mem _ hq)
    simp only [List.map_cons, List.sum_cons, List.length_cons]
    rw [Int.natCast_add, Int.mul_add]
    omega
theorem sum_step {α : Type} (f : α → Int) (l : List α) (d : α) (i : Nat) (hi : i < l.length) : ((l.take (i + 1)).map f).sum = ((l.take i).map f).sum + f (l.getD i d) := by
  rw [take_getD l i d hi, List.map_append, List.sum_append]
  simp
section
variable {N : Nat} (hN : 1000 < N)
include hN
theorem total_eq (l : List Pond) (hl : l.length ≤ 8) (h : ∀ p, p ∈ l → PondOk p) : pond_Total N l = some (totI l) := by
  unfold pond_Total
  refine (bindT (fun i => (totI (l.take i), (i : Int))) rfl (totI l) l.length (show l.length < N by omega) (fun i hi => ?_) ?_).trans rfl
  · have hp := h _ (getD_mem l i z_Pond hi)
    unfold PondOk at hp
    have hb := sum_bound (fun p : Pond => p.Volume) 1000000000 (l.take i) (fun p hp' => by have := h p (List.mem_of_mem_take hp'); unfold PondOk at this; omega)
    have hlen : (l.take i).length ≤ 8 := by simp; omega
    have hs := sum_step (fun p : Pond => p.Volume) l z_Pond i hi
    have e : totI (l.take i) = ((l.take i).map fun p => p.Volume).sum := rfl
    simp only [dlt hi, dge, Bool.and_self, cond_true, Int.toNat_natCast, wrapC (show i < 9223372036854775807 by omega)]
    rw [wrap64 (by omega) (by omega), show totI (l.take (i + 1)) = _ from hs, e]
  · simp only [dnlt, cond_false, List.take_length]
theorem spare_eq (l : List Pond) (hl : l.length ≤ 8) (h : ∀ p, p ∈ l → PondOk p) : pond_Spare N l = some (spaI l) := by
  unfold pond_Spare
  refine (bindT (fun i => (spaI (l.take i), (i : Int))) rfl (spaI l) l.length (show l.length < N by omega) (fun i hi => ?_) ?_).trans rfl
  · have hp := h _ (getD_mem l i z_Pond hi)
    unfold PondOk at hp
    have hb := sum_bound (fun p : Pond => p.Volume - p.Least) 1000000000 (l.take i) (fun p hp' => by have := h p (List.mem_of_mem_take hp'); unfold PondOk at this; omega)
    have hlen : (l.take i).length ≤ 8 := by simp; omega
    have hs := sum_step (fun p : Pond => p.Volume - p.Least) l z_Pond i hi
    have e : spaI (l.take i) = ((l.take i).map fun p => p.Volume - p.Least).sum := rfl
    simp only [dlt hi, dge, Bool.and_self, cond_true, Int.toNat_natCast, wrapC (show i < 9223372036854775807 by omega)]
    rw [wrap64 (z := (l.getD i z_Pond).Volume - (l.getD i z_Pond).Least) (by omega) (by omega), wrap64 (by omega) (by omega), show spaI (l.take (i + 1)) = _ from hs, e]
  · simp only [dnlt, cond_false, List.take_length]
end
end Go.Proofs.Ytkhkblihdabnoaa.Pn
