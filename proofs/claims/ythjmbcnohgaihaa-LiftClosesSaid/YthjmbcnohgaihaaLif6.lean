/- The lift: the checklist. No condition. -/
import Derived.Test.YthjmbcnohgaihaaLif5
namespace Go.Proofs.Ythjmbcnohgaihaa
open Go.Cm Go.Proofs
theorem hasI_fst (l : List Int) (x : Int) : hasI l x = (fst (fun i => x == l.getD i 0) l.length).isSome := by
  cases h : fst (fun i => x == l.getD i 0) l.length with
  | some i =>
    obtain ⟨a, b, _⟩ := fst_some.1 h
    unfold hasI
    rw [List.any_eq_true.2 ⟨x, ?_, by simp⟩]
    · rfl
    · have b' : x = l.getD i 0 := by simpa using b
      rw [b']
      exact getD_mem l i 0 a
  | none =>
    unfold hasI
    rw [List.any_eq_false.2 fun y hy => ?_]
    · rfl
    · obtain ⟨i, hi, rfl⟩ := mem_getD 0 hy
      have := fst_none.1 h i hi
      simp only [beq_eq_false_iff_ne, ne_eq] at this
      simp only [beq_iff_eq]
      exact fun e => this e.symm
structure CkOk (c : Checklist) : Prop where
  items : c.Items.length ≤ 64
  signs : c.Signs.length ≤ 200
  every : 1 ≤ c.Every ∧ c.Every ≤ 604800
  at' : ∀ i, i < c.Signs.length → 0 ≤ (c.Signs.getD i z_Sign).At ∧ (c.Signs.getD i z_Sign).At ≤ 20000000
theorem ck_ok {c : Checklist} (h : rightC c = 0) : CkOk c := by
  unfold rightC at h
  cases h1 : (decide ((c.Items.length : Int) > 64) || decide ((c.Signs.length : Int) > 200)) with
  | true => rw [h1] at h; cases h
  | false =>
    cases h2 : (decide (c.Every < 1) || decide (c.Every > 604800)) with
    | true => rw [h1, h2] at h; cases h
    | false =>
      rw [h1, h2, cond_false, cond_false] at h
      simp only [Bool.or_eq_false_iff, decide_eq_false_iff_not] at h1 h2
      refine ⟨by omega, by omega, by omega, fun i hi => ?_⟩
      cases hf : fst (fun i => errI c.Items i != 0) c.Items.length with
      | some j =>
        rw [hf] at h
        have := (fst_some.1 hf).2.1
        simp only [bne_iff_ne] at this
        exact absurd h this
      | none =>
        rw [hf] at h
        simp only at h
        cases hg : fst (fun i => errG c.Items c.Signs i != 0) c.Signs.length with
        | some j =>
          rw [hg] at h
          have := (fst_some.1 hg).2.1
          simp only [bne_iff_ne] at this
          exact absurd h this
        | none =>
          have := fst_none.1 hg i hi
          rw [bne_eq_false_iff_eq] at this
          unfold errG at this
          cases a1 : (!hasI c.Items (c.Signs.getD i z_Sign).Item) with
          | true => rw [a1] at this; cases this
          | false =>
            cases a2 : (decide ((c.Signs.getD i z_Sign).By < 1) || decide ((c.Signs.getD i z_Sign).By > 9999)) with
            | true => rw [a1, a2] at this; cases this
            | false =>
              cases a3 : (decide ((c.Signs.getD i z_Sign).At < 0) || decide ((c.Signs.getD i z_Sign).At > 20000000)) with
              | true => rw [a1, a2, a3] at this; cases this
              | false =>
                simp only [Bool.or_eq_false_iff, decide_eq_false_iff_not] at a3
                omega
section
variable {N : Nat} (hN : 1000 < N)
include hN
theorem contains_eq (l : List Int) (hl : l.length ≤ 900) (x : Int) : sl_Contains_int N l x = some (hasI l x) := by
  unfold sl_Contains_int sl_Index_int
  rw [search (fun i => x == l.getD i 0) (fun i => (i : Int)) () l.length (by omega) (fun i hi => ?_) (by simp), hasI_fst]
  · cases fst (fun i => x == l.getD i 0) l.length with
    | none => rfl
    | some i =>
      have : decide ((i : Int) ≥ 0) = true := by simp
      simp only [sres, Option.bind_some, Sum.elim_inr, this, Option.isSome_some]
  · simp only [dlt hi, dge, Bool.and_self, cond_true, Int.toNat_natCast, wrapN (show i < 9223372036854775807 by omega)]
theorem iright_eq (c : Checklist) : inspect_Right N c = some (rightC c) := by
  unfold inspect_Right rightC
  simp only [cond_or, Option.bind_some]
  cases h1 : (decide ((c.Items.length : Int) > 64) || decide ((c.Signs.length : Int) > 200)) with
  | true => rfl
  | false =>
    simp only [Bool.or_eq_false_iff, decide_eq_false_iff_not] at h1
    simp only [cond_false]
    cases h2 : (decide (c.Every < 1) || decide (c.Every > 604800)) with
    | true => rfl
    | false =>
      simp only [cond_false]
      rw [search (fun i => errI c.Items i != 0) (fun i => errI c.Items i) () c.Items.length (by omega) (fun i hi => ?_) (by simp)]
      · cases fst (fun i => errI c.Items i != 0) c.Items.length with
        | some i => rfl
        | none =>
          simp only [sres, Option.bind_some, Sum.elim_inl]
          rw [search (fun i => errG c.Items c.Signs i != 0) (fun i => errG c.Items c.Signs i) () c.Signs.length (by omega) (fun i hi => ?_) (by simp)]
          · cases fst (fun i => errG c.Items c.Signs i != 0) c.Signs.length <;> rfl
          · have e4 : (bif decide ((i : Int) > 0) then bif decide ((0 : Int) ≤ IntKind.i64.wrap ((i : Int) - 1)) && decide (IntKind.i64.wrap ((i : Int) - 1) < (c.Signs.length : Int)) then some (decide ((c.Signs.getD i z_Sign).At < (c.Signs.getD (IntKind.i64.wrap ((i : Int) - 1)).toNat z_Sign).At)) else none else some false) = some (decide (0 < i) && decide ((c.Signs.getD i z_Sign).At < (c.Signs.getD (i - 1) z_Sign).At)) := by
              cases i with
              | zero => rfl
              | succ i =>
                have c1 : decide (((i + 1 : Nat) : Int) > 0) = true := by simp only [decide_eq_true_eq]; omega
                have c2 : decide (0 < i + 1) = true := by simp
                rw [c1, c2, wrapS (show i < 9223372036854775807 by omega)]
                simp only [dge, dlt (show i < c.Signs.length by omega), Bool.and_self, cond_true, Int.toNat_natCast, Nat.add_sub_cancel, Bool.true_and]
            simp only [dlt hi, dge, Bool.and_self, cond_true, Int.toNat_natCast, contains_eq hN c.Items (by omega), Option.bind_some, e4, wrapN (show i < 9223372036854775807 by omega)]
            unfold errG
            cases hasI c.Items (c.Signs.getD i z_Sign).Item <;> try rfl
            cases (decide ((c.Signs.getD i z_Sign).By < 1) || decide ((c.Signs.getD i z_Sign).By > 9999)) <;> try rfl
            cases (decide ((c.Signs.getD i z_Sign).At < 0) || decide ((c.Signs.getD i z_Sign).At > 20000000)) <;> try rfl
            cases (decide (0 < i) && decide ((c.Signs.getD i z_Sign).At < (c.Signs.getD (i - 1) z_Sign).At)) <;> rfl
      · simp only [dlt hi, dge, dle (Nat.le_of_lt hi), Bool.and_self, cond_true, Int.toNat_natCast, contains_eq hN (c.Items.take i) (by simp; omega), Option.bind_some, wrapN (show i < 9223372036854775807 by omega)]
        unfold errI
        cases (decide (c.Items.getD i 0 < 1) || decide (c.Items.getD i 0 > 9999)) <;> try rfl
        cases hasI (c.Items.take i) (c.Items.getD i 0) <;> rfl
theorem sign_eq {c : Checklist} (h : CkOk c) (it b t : Int) : inspect_Sign N c it b t = some (signC c it b t) := by
  have h1 := h.items
  have h2 := h.signs
  have fl : ∀ i, ((c.Signs.take i).filter fun g => g.Item != it).length ≤ 200 := fun i => by
    have a : ((c.Signs.take i).filter fun g => g.Item != it).length ≤ (c.Signs.take i).length := List.length_filter_le _ _
    simp only [List.length_take] at a
    omega
  unfold inspect_Sign
  rw [cloneI_eq c.Items (by omega), Option.bind_some]
  refine (bindT (fun i => ((i : Int), Checklist.mk c.Items c.Every ((c.Signs.take i).filter fun g => g.Item != it))) rfl (Checklist.mk c.Items c.Every (c.Signs.filter fun g => g.Item != it)) c.Signs.length (show c.Signs.length < N by omega) (fun i hi => ?_) ?_).trans ?_
  · have f := fl i
    have hb : ∀ g : Sign, decide ((((c.Signs.take i).filter fun g => g.Item != it).length + [g].length) * 24 ≤ 140737488355328) = true := fun g => by simp only [List.length_singleton, decide_eq_true_eq]; omega
    simp only [dlt hi, dge, Bool.and_self, cond_true, Int.toNat_natCast, Option.bind_some, hb, wrapC (show i < 9223372036854775807 by omega), take_getD c.Signs i z_Sign hi, List.filter_append]
    cases hc : ((c.Signs.getD i z_Sign).Item != it) with
    | true => simp only [cond_true, Option.bind_some, List.filter_cons, hc, if_true, List.filter_nil]
    | false => simp only [cond_false, Option.bind_some, List.filter_cons, hc, List.filter_nil, Bool.false_eq_true, if_false, List.append_nil]
  · simp only [dnlt, cond_false, List.take_length]
  · have f := fl c.Signs.length
    rw [List.take_length] at f
    have hb : decide (((c.Signs.filter fun g => g.Item != it).length + [Sign.mk it b t].length) * 24 ≤ 140737488355328) = true := by simp only [List.length_singleton, decide_eq_true_eq]; omega
    simp only [Option.bind_some, hb, cond_true, iright_eq hN]
    unfold signC signC0
    cases (rightC (Checklist.mk c.Items c.Every ((c.Signs.filter fun g => g.Item != it) ++ [Sign.mk it b t])) != 0) <;> rfl
theorem open_eq {c : Checklist} (h : CkOk c) (t : Int) : inspect_Open N c t = some (openC c t) := by
  have h1 := h.items
  have h2 := h.signs
  have he := h.every
  have hany : ∀ it, c.Signs.any (countC c t it) = (fst (fun i => countC c t it (c.Signs.getD i z_Sign)) c.Signs.length).isSome := fun it => by
    cases hf : fst (fun i => countC c t it (c.Signs.getD i z_Sign)) c.Signs.length with
    | some i =>
      obtain ⟨a, b, _⟩ := fst_some.1 hf
      rw [List.any_eq_true.2 ⟨_, getD_mem c.Signs i z_Sign a, b⟩]
      rfl
    | none =>
      rw [List.any_eq_false.2 fun y hy => ?_]
      · rfl
      · obtain ⟨i, hi, rfl⟩ := mem_getD z_Sign hy
        have := fst_none.1 hf i hi
        rw [this]
        decide
  have fl : ∀ i, ((c.Items.take i).filter fun it => !c.Signs.any (countC c t it)).length ≤ 64 := fun i => by
    have a : ((c.Items.take i).filter fun it => !c.Signs.any (countC c t it)).length ≤ (c.Items.take i).length := List.length_filter_le _ _
    simp only [List.length_take] at a
    omega
  unfold inspect_Open
  refine (bindT (fun i => (((c.Items.take i).filter fun it => !c.Signs.any (countC c t it)), (i : Int))) rfl (openC c t) c.Items.length (show c.Items.length < N by omega) (fun i hi => ?_) ?_).trans rfl
  · have f := fl i
    have hb : ∀ g : Int, decide ((((c.Items.take i).filter fun it => !c.Signs.any (countC c t it)).length + [g].length) * 8 ≤ 140737488355328) = true := fun g => by simp only [List.length_singleton, decide_eq_true_eq]; omega
    simp only [dlt hi, dge, Bool.and_self, cond_true, Int.toNat_natCast]
    rw [search (fun j => countC c t (c.Items.getD i 0) (c.Signs.getD j z_Sign)) (fun j => (j : Int)) () c.Signs.length (by omega) (fun j hj => ?_) (by simp)]
    · simp only [Option.bind_some, hb, cond_true, wrapC (show i < 9223372036854775807 by omega), take_getD c.Items i 0 hi, List.filter_append, List.filter_cons, List.filter_nil, hany (c.Items.getD i 0)]
      cases fst (fun j => countC c t (c.Items.getD i 0) (c.Signs.getD j z_Sign)) c.Signs.length with
      | none => simp only [sres, Sum.elim_inl, hb, cond_true, Option.bind_some, Option.isSome_none, Bool.not_false, if_true]
      | some j =>
        have : decide ((j : Int) ≥ 0) = true := by simp
        simp only [sres, Sum.elim_inr, this, Bool.not_true, cond_false, Option.bind_some, Option.isSome_some, Bool.false_eq_true, if_false, List.append_nil]
    · have q := h.at' j hj
      simp only [dlt hj, dge, Bool.and_self, cond_true, Int.toNat_natCast, wrap64 (z := (c.Signs.getD j z_Sign).At + c.Every) (by omega) (by omega), wrapN (show j < 9223372036854775807 by omega)]
      unfold countC
      cases ((c.Signs.getD j z_Sign).Item == c.Items.getD i 0) <;> cases decide ((c.Signs.getD j z_Sign).At ≤ t) <;> rfl
  · simp only [dnlt, cond_false, List.take_length]
    rfl
theorem done_eq {c : Checklist} (h : CkOk c) (t : Int) : inspect_Done N c t = some (doneC c t) := by
  unfold inspect_Done doneC
  rw [open_eq hN h]
  rfl
end
theorem signC_ok {c : Checklist} {it b t : Int} (hz : (signC c it b t).2 = 0) : rightC (signC c it b t).1 = 0 := by
  unfold signC at *
  cases h : (rightC (signC0 c it b t) != 0) with
  | true =>
    rw [h, cond_true] at hz
    rw [bne_iff_ne] at h
    exact absurd hz h
  | false => simpa using h
end Go.Proofs.Ythjmbcnohgaihaa
