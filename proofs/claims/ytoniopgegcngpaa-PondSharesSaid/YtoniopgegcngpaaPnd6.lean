/- The ponds: Split of the code and Split of the reference give the same parts, in plain words. No condition. -/
import Derived.Test.YtoniopgegcngpaaPnd5
namespace Go.Proofs.Ytoniopgegcngpaa
open Go.Cm Go.Proofs
theorem sorted_facts {rs : List Int} {n : Nat} {o : List Int} (h : Sorted rs n o) : o.length = n ∧ (∀ v, v ∈ o → 0 ≤ v ∧ v < n) ∧ o.Nodup :=
  ⟨by rw [h.1.length_eq, idx_len], fun v hv => idx_mem.1 (h.1.mem_iff.1 hv), h.1.nodup_iff.2 (idx_nodup n)⟩
theorem mixd_at {α : Type} {t l : List α} (h : t.length = l.length) {i : Nat} (hi : i < l.length) (d : α) : (mixd t l (i + 1)).getD i d = t.getD i d := by
  have : (t.take (i + 1)).length = i + 1 := by simp; omega
  have h2 : i < t.length := by omega
  simp [mixd, List.getD, List.getElem?_append, this, List.getElem?_take, List.getElem?_eq_getElem h2]
section
variable {N : Nat} (hN : 1000 < N) {a : Int} {ws : List Int} (g : Good a ws)
include hN g
theorem split_eq {o : List Int} (ho : whileF N (outerB N (ws.map (rF a ws.sum)) ws.length) (1, idx ws.length) = some o) (hS : Sorted (ws.map (rF a ws.sum)) ws.length o) :
    split_Split N a ws = some (incs (ws.map (qF a ws.sum)) (o.take (a - (ws.map (qF a ws.sum)).sum).toNat), 0) := by
  obtain ⟨h1, h2, h3, h4⟩ := g.sum
  have hl := g.len
  have hp := g.pos
  obtain ⟨L1, L2, L3⟩ := g.left
  obtain ⟨o1, o2, o3⟩ := sorted_facts hS
  unfold split_Split
  have c1 : decide ((ws.length : Int) ≤ (ws.length : Int)) = true := by simp
  have c2 : decide ((ws.length : Int) * 8 ≤ 140737488355328) = true := by rw [decide_eq_true_eq]; omega
  simp only [check_eq hN g, Option.bind_some, bne_self_eq_false, cond_false, c1, c2, Bool.and_self, cond_true, Int.toNat_natCast]
  have hz : (List.replicate ws.length (0 : Int)).length = ws.length := List.length_replicate
  have m1 : (ws.map (qF a ws.sum)).length = (List.replicate ws.length (0 : Int)).length := by simp
  have m2 : (ws.map (rF a ws.sum)).length = (List.replicate ws.length (0 : Int)).length := by simp
  have m3 : (idx ws.length).length = (List.replicate ws.length (0 : Int)).length := by rw [idx_len, hz]
  refine (bindT (fun i => (a - ((ws.take i).map (qF a ws.sum)).sum, (i : Int), mixd (ws.map (qF a ws.sum)) (List.replicate ws.length 0) i, mixd (ws.map (rF a ws.sum)) (List.replicate ws.length 0) i, mixd (idx ws.length) (List.replicate ws.length 0) i)) ?_
    (a - (ws.map (qF a ws.sum)).sum, ws.map (qF a ws.sum), ws.map (rF a ws.sum), idx ws.length) ws.length (show ws.length < N by omega) (fun i hi => ?_) ?_).trans ?_
  · simp [mixd_zero]
  · have hi' : i < (List.replicate ws.length (0 : Int)).length := by rw [hz]; exact hi
    have hw := getD_mem ws i 0 hi
    have hq := g.q hw
    have hb := g.wt _ hw
    have hsb := sum_bound (qF a ws.sum) 8000000000 (ws.take i) (fun w hw => by have := g.q (List.mem_of_mem_take hw); omega)
    have hlen : (ws.take i).length ≤ 8 := by simp; omega
    have hex : split_exact N a (ws.getD i 0) ws.sum = some (qF a ws.sum (ws.getD i 0), rF a ws.sum (ws.getD i 0)) := exact_eq (by omega) (by omega) hb.1 hb.2 h2 (by omega) hq.2.2.2.2
    have e1 : (mixd (ws.map (qF a ws.sum)) (List.replicate ws.length 0) i).set i (qF a ws.sum (ws.getD i 0)) = mixd (ws.map (qF a ws.sum)) (List.replicate ws.length 0) (i + 1) := mixd_set m1 hi' _ 0 (getD_map _ ws i 0 0 hi).symm
    have e2 : (mixd (ws.map (rF a ws.sum)) (List.replicate ws.length 0) i).set i (rF a ws.sum (ws.getD i 0)) = mixd (ws.map (rF a ws.sum)) (List.replicate ws.length 0) (i + 1) := mixd_set m2 hi' _ 0 (getD_map _ ws i 0 0 hi).symm
    have e3 : (mixd (idx ws.length) (List.replicate ws.length 0) i).set i (i : Int) = mixd (idx ws.length) (List.replicate ws.length 0) (i + 1) := mixd_set m3 hi' _ 0 (idx_get hi).symm
    have e4 : (mixd (ws.map (qF a ws.sum)) (List.replicate ws.length 0) (i + 1)).getD i 0 = qF a ws.sum (ws.getD i 0) := (mixd_at m1 hi' 0).trans (getD_map _ ws i 0 0 hi)
    simp only [dlt hi, dge, Bool.and_self, cond_true, Int.toNat_natCast, hex, Option.bind_some, mixd_len m1, mixd_len m2, mixd_len m3, dlt hi', e1, e2, e3, e4, wrapC (show i < 9223372036854775807 by omega), sum_step (qF a ws.sum) ws 0 i hi]
    rw [wrap64 (by omega) (by omega)]
    congr 3
    omega
  · have x1 := mixd_all m1
    have x2 := mixd_all m2
    have x3 := mixd_all m3
    rw [hz] at x1 x2 x3
    simp only [dnlt, cond_false, List.take_length, x1, x2, x3]
  · simp only [idx_len]
    refine (bindT (fun _ => ((0 : Int), (20 : Int), idx ws.length)) rfl ((0 : Int), idx ws.length) 0 (show 0 < N by omega) (fun i hi => by omega) ?_).trans ?_
    · have : decide ((20 : Int) ≤ (ws.length : Int)) = false := by rw [decide_eq_false_iff_not]; omega
      simp only [this, cond_false]
    · have w1 : IntKind.i64.wrap ((0 : Int) + 1) = 1 := by decide
      simp only [w1]
      refine (bind_while (r0 := o) ho).trans ?_
      refine (bindT (fun _ => ((20 : Int), o)) rfl o 0 (show 0 < N by omega) (fun i hi => by omega) ?_).trans ?_
      · have : decide ((20 : Int) < (ws.length : Int)) = false := by rw [decide_eq_false_iff_not]; omega
        simp only [this, cond_false]
      · obtain ⟨lf, hlf⟩ : ∃ lf : Nat, a - (ws.map (qF a ws.sum)).sum = lf := ⟨(a - (ws.map (qF a ws.sum)).sum).toNat, by omega⟩
        simp only [hlf, Int.toNat_natCast, o1, dge]
        rw [hlf] at L2
        have d1 : decide ((lf : Int) ≤ (ws.length : Int)) = true := by rw [decide_eq_true_eq]; omega
        have htl : (o.take lf).length = lf := by simp; omega
        simp only [d1, Bool.and_self, cond_true, htl]
        refine (bindT (fun k => ((k : Int), incs (ws.map (qF a ws.sum)) ((o.take lf).take k))) rfl (incs (ws.map (qF a ws.sum)) (o.take lf)) lf (show lf < N by omega) (fun k hk => ?_) ?_).trans rfl
        · have hk' : k < (o.take lf).length := by rw [htl]; exact hk
          have hv := o2 _ (List.mem_of_mem_take (getD_mem (o.take lf) k 0 hk'))
          have f1 : decide (0 ≤ (o.take lf).getD k 0) = true := by rw [decide_eq_true_eq]; omega
          have f2 : decide ((o.take lf).getD k 0 < (ws.length : Int)) = true := by rw [decide_eq_true_eq]; omega
          simp only [dlt hk, dge, Bool.and_self, cond_true, Int.toNat_natCast, incs_len, List.length_map, f1, f2, Option.bind_some, wrapC (show k < 9223372036854775807 by omega)]
          rw [incs_step _ _ k hk']
          rfl
        · have : (o.take lf).take lf = o.take lf := by rw [List.take_take, Nat.min_self]
          simp only [dnlt, cond_false, this]
end
/-! the reference -/
def bestB (R : List Int) : Int × Int → Option ((Int × Int) ⊕ Int) := (fun (p17 : Int × Int) => bif decide (p17.snd < (↑(List.length R) : Int)) then bif decide ((0 : Int) ≤ p17.snd) && decide (p17.snd < (↑(List.length R) : Int)) then bif decide ((0 : Int) ≤ p17.fst) && decide (p17.fst < (↑(List.length R) : Int)) then (bif decide (List.getD R (Int.toNat p17.snd) (0 : Int) > List.getD R (Int.toNat p17.fst) (0 : Int)) then some p17.snd else some p17.fst).bind fun (r18 : Int) => some (Sum.inl (r18, IntKind.i64.wrap (p17.snd + (1 : Int)))) else none else none else some (Sum.inr p17.fst))
theorem best_spec {N : Nat} (hN : 1000 < N) {R : List Int} {n t : Nat} (hR : R.length = n) (hn : n ≤ 8) (ht : t < n) (h1 : ∀ j, j < n → R.getD j 0 ≤ R.getD t 0) (h2 : ∀ j, j < t → R.getD j 0 < R.getD t 0) : whileF N (bestB R) (0, 1) = some (t : Int) := by
  suffices h : ∃ r, whileF N (bestB R) (0, 1) = some r ∧ ∃ b : Nat, r = (b : Int) ∧ b < n ∧ (∀ j, j < n → R.getD j 0 ≤ R.getD b 0) ∧ ∀ j, j < b → R.getD j 0 < R.getD b 0 by
    obtain ⟨r, e1, b, rfl, e2, e3, e4⟩ := h
    rw [e1]
    have : b = t := by
      rcases Nat.lt_trichotomy b t with h | h | h
      · have := h2 b h; have := e3 t ht; omega
      · exact h
      · have := e4 t h; have := h1 b e2; omega
    rw [this]
  have hzero : ∀ j, j ≤ 0 → R.getD j 0 ≤ R.getD 0 0 := fun j hj => by rw [Nat.le_zero.1 hj]; exact Int.le_refl _
  refine whileF_inv (fun i (s : Int × Int) => s.2 = ((i + 1 : Nat) : Int) ∧ ∃ b : Nat, s.1 = (b : Int) ∧ b ≤ i ∧ (∀ j, j ≤ i → R.getD j 0 ≤ R.getD b 0) ∧ ∀ j, j < b → R.getD j 0 < R.getD b 0) _ (n - 1) ⟨rfl, 0, rfl, by omega, hzero, fun j hj => by omega⟩ (fun i s hi hI => .inl ?_) (fun s hI => ?_) (by omega)
  · obtain ⟨b', k⟩ := s
    obtain ⟨hk, b, hb, hbi, h3, h4⟩ := hI
    simp only at hk hb
    subst hk
    subst hb
    have e1 : i + 1 < n := by omega
    unfold bestB
    simp only [hR, dlt e1, dge, dlt (show b < n by omega), Bool.and_self, cond_true, Int.toNat_natCast, wrapC (show i + 1 < 9223372036854775807 by omega)]
    by_cases hgt : R.getD (i + 1) 0 > R.getD b 0
    · simp only [hgt, decide_true, cond_true, Option.bind_some]
      refine ⟨_, rfl, rfl, i + 1, rfl, Nat.le_refl _, fun j hj => ?_, fun j hj => ?_⟩
      · by_cases hj' : j = i + 1
        · subst hj'; exact Int.le_refl _
        · have := h3 j (by omega); omega
      · have := h3 j (by omega); omega
    · simp only [hgt, decide_false, cond_false, Option.bind_some]
      refine ⟨_, rfl, rfl, b, rfl, by omega, fun j hj => ?_, h4⟩
      by_cases hj' : j = i + 1
      · subst hj'; omega
      · exact h3 j (by omega)
  · obtain ⟨b', k⟩ := s
    obtain ⟨hk, b, hb, hbi, h3, h4⟩ := hI
    simp only at hk hb
    subst hk
    subst hb
    have e1 : n - 1 + 1 = n := by omega
    refine ⟨(b : Int), ?_, b, rfl, by omega, fun j hj => h3 j (by omega), h4⟩
    unfold bestB
    simp only [e1, hR, dnlt, cond_false]
section
variable {N : Nat} (hN : 1000 < N) {a : Int} {ws : List Int} (g : Good a ws)
include hN g
theorem rsplit_eq {o : List Int} (hS : Sorted (ws.map (rF a ws.sum)) ws.length o) :
    r34_Split N a ws = some (incs (ws.map (qF a ws.sum)) (o.take (a - (ws.map (qF a ws.sum)).sum).toNat), 0) := by
  obtain ⟨h1, h2, h3, h4⟩ := g.sum
  have hl := g.len
  have hp := g.pos
  obtain ⟨L1, L2, L3⟩ := g.left
  obtain ⟨o1, o2, o3⟩ := sorted_facts hS
  unfold r34_Split
  have c1 : decide ((ws.length : Int) > 64) = false := by rw [decide_eq_false_iff_not]; omega
  have c2 : decide (a < 0) = false := by rw [decide_eq_false_iff_not]; omega
  have c3 : decide (a > 1099511627776) = false := by rw [decide_eq_false_iff_not]; omega
  have c4 : (ws.sum == 0) = false := by rw [beq_eq_false_iff_ne]; omega
  simp only [c1, c2, c3, cond_false, cond_or, Bool.or_self, Option.bind_some]
  rw [through () ws.length (by omega) (fun i hi => ?_) (by simp)]
  · simp only [Option.bind_some, Sum.elim_inl, rsum_eq hN ws (by omega) (fun x hx => by have := g.wt x hx; omega), c4, cond_false]
    refine (bindT (fun i => ((ws.take i).map (qF a ws.sum), (ws.take i).map (rF a ws.sum), (i : Int))) rfl (ws.map (qF a ws.sum), ws.map (rF a ws.sum)) ws.length (show ws.length < N by omega) (fun i hi => ?_) ?_).trans ?_
    · have hw := getD_mem ws i 0 hi
      have hb := g.wt _ hw
      have hqt : r34_Quotient N a (ws.getD i 0) ws.sum = some (qF a ws.sum (ws.getD i 0), rF a ws.sum (ws.getD i 0)) := quot_eq hN (by omega) (by omega) hb.1 hb.2 h2 (by omega) (h4 _ hw)
      have b1 : ∀ f : Int → Int, ∀ x : Int, decide ((((ws.take i).map f).length + [x].length) * 8 ≤ 140737488355328) = true := fun f x => by
        simp only [List.length_map, List.length_take, List.length_singleton, decide_eq_true_eq]; omega
      simp only [dlt hi, dge, Bool.and_self, cond_true, Int.toNat_natCast, hqt, Option.bind_some, b1, wrapC (show i < 9223372036854775807 by omega)]
      rw [take_getD ws i 0 hi, List.map_append, List.map_append]
      rfl
    · simp only [dnlt, cond_false, List.take_length]
    · obtain ⟨lf, hlf⟩ : ∃ lf : Nat, a - (ws.map (qF a ws.sum)).sum = lf := ⟨(a - (ws.map (qF a ws.sum)).sum).toNat, by omega⟩
      rw [hlf] at L2 L3 ⊢
      rw [Int.toNat_natCast]
      have hqb : ∀ x, x ∈ ws.map (qF a ws.sum) → 0 ≤ x ∧ x ≤ 8000000000 := fun x hx => by
        obtain ⟨w, hw, rfl⟩ := List.mem_map.1 hx
        have := g.q hw
        omega
      have hTo : ∀ m, ∀ v, v ∈ o.take m → 0 ≤ v ∧ v < ((ws.map (qF a ws.sum)).length : Int) := fun m v hv => by rw [List.length_map]; exact o2 v (List.mem_of_mem_take hv)
      have hsum : ∀ m, m ≤ lf → r34_sum N (incs (ws.map (qF a ws.sum)) (o.take m)) = some ((ws.map (qF a ws.sum)).sum + (m : Int)) := fun m hm => by
        have htl : (o.take m).length = m := by simp; omega
        obtain ⟨s1, s2⟩ := incs_spec (o.take m) (ws.map (qF a ws.sum)) 8000000000 hqb (hTo m) (by omega) (by rw [htl]; omega)
        rw [htl] at s1 s2
        rw [rsum_eq hN _ (by rw [incs_len, List.length_map]; omega) (fun x hx => by have := s2 x hx; omega), s1]
      refine (bindT (fun m => (incs (ws.map (qF a ws.sum)) (o.take m), marks (ws.map (rF a ws.sum)) (o.take m))) rfl (incs (ws.map (qF a ws.sum)) (o.take lf), marks (ws.map (rF a ws.sum)) (o.take lf)) lf (show lf < N by omega) (fun m hm => ?_) ?_).trans rfl
      · have hmo : m < o.length := by omega
        have htl : (o.take m).length = m := by simp; omega
        have d1 : decide ((ws.map (qF a ws.sum)).sum + (m : Int) < a) = true := by rw [decide_eq_true_eq]; omega
        obtain ⟨t, ht⟩ : ∃ t : Nat, o.getD m 0 = (t : Int) := ⟨(o.getD m 0).toNat, by have := o2 _ (getD_mem o m 0 hmo); omega⟩
        have htn : t < ws.length := by have := o2 _ (getD_mem o m 0 hmo); omega
        have hrb : ∀ i : Nat, i < ws.length → 0 ≤ (ws.map (rF a ws.sum)).getD i 0 := fun i hi => by rw [getD_map _ ws i 0 0 hi]; exact (g.q (getD_mem ws i 0 hi)).2.2.1
        have hmg : ∀ i : Nat, i < ws.length → (marks (ws.map (rF a ws.sum)) (o.take m)).getD i 0 = bif (o.take m).contains (i : Int) then -1 else (ws.map (rF a ws.sum)).getD i 0 := fun i hi =>
          marks_get (o.take m) (ws.map (rF a ws.sum)) (fun v hv => by rw [List.length_map]; exact o2 v (List.mem_of_mem_take hv)) i (by rw [List.length_map]; exact hi)
        -- the order: what is there, the next one, what follows
        have hsplit : o = o.take m ++ (t : Int) :: o.drop (m + 1) := by
          conv => lhs; rw [← List.take_append_drop m o]
          rw [List.drop_eq_getElem_cons hmo, ← ht]
          simp [List.getD, List.getElem?_eq_getElem hmo]
        have hnd := o3
        rw [hsplit, List.nodup_append] at hnd
        have hnt : (o.take m).contains (t : Int) = false := by
          rw [List.contains_eq_mem, decide_eq_false_iff_not]
          intro h
          exact hnd.2.2 _ h _ (List.mem_cons_self ..) rfl
        have hpw := hS.2
        rw [hsplit, List.pairwise_append, List.pairwise_cons] at hpw
        have hRt : (marks (ws.map (rF a ws.sum)) (o.take m)).getD t 0 = (ws.map (rF a ws.sum)).getD t 0 := by rw [hmg t htn, hnt]; rfl
        have key : ∀ j : Nat, j < ws.length → j ≠ t → (marks (ws.map (rF a ws.sum)) (o.take m)).getD j 0 ≤ (marks (ws.map (rF a ws.sum)) (o.take m)).getD t 0 ∧ (j < t → (marks (ws.map (rF a ws.sum)) (o.take m)).getD j 0 < (marks (ws.map (rF a ws.sum)) (o.take m)).getD t 0) := fun j hj hjt => by
          rw [hRt, hmg j hj]
          have ht0 := hrb t htn
          cases hc : (o.take m).contains (j : Int) with
          | true =>
            rw [cond_true]
            exact ⟨by omega, fun _ => by omega⟩
          | false =>
            rw [cond_false]
            have hjo : (j : Int) ∈ o := hS.1.mem_iff.2 (idx_mem.2 (by omega))
            have hjd : (j : Int) ∈ o.drop (m + 1) := by
              rw [hsplit] at hjo
              rcases List.mem_append.1 hjo with h | h
              · rw [List.contains_eq_mem, decide_eq_false_iff_not] at hc
                exact absurd h hc
              · rcases List.mem_cons.1 h with h | h
                · omega
                · exact h
            have hlt := hpw.2.1.1 _ hjd
            have e1 : rat (ws.map (rF a ws.sum)) (t : Int) = (ws.map (rF a ws.sum)).getD t 0 := by unfold rat; rw [Int.toNat_natCast]
            have e2 : rat (ws.map (rF a ws.sum)) (j : Int) = (ws.map (rF a ws.sum)).getD j 0 := by unfold rat; rw [Int.toNat_natCast]
            unfold ltR at hlt
            rw [e1, e2] at hlt
            omega
        have hbest := best_spec hN (R := marks (ws.map (rF a ws.sum)) (o.take m)) (n := ws.length) (t := t) (by rw [marks_len, List.length_map]) hl htn (fun j hj => by
            by_cases hjt : j = t
            · subst hjt; exact Int.le_refl _
            · exact (key j hj hjt).1) (fun j hj => (key j (by omega) (by omega)).2 hj)
        simp only [hsum m (by omega), Option.bind_some, d1, cond_true]
        refine (bind_while (r0 := (t : Int)) hbest).trans ?_
        simp only [dge, incs_len, marks_len, List.length_map, dlt htn, Bool.and_self, cond_true, Int.toNat_natCast, Option.bind_some]
        rw [incs_step _ o m hmo, marks_step _ o m hmo, ht, Int.toNat_natCast]
        unfold inc1
        rw [Int.toNat_natCast]
      · have d1 : decide ((ws.map (qF a ws.sum)).sum + (lf : Int) < a) = false := by rw [decide_eq_false_iff_not]; omega
        simp only [hsum lf (by omega), Option.bind_some, d1, cond_false]
  · have hw := g.wt _ (getD_mem ws i 0 hi)
    have d1 : decide (ws.getD i 0 < 0) = false := by rw [decide_eq_false_iff_not]; omega
    have d2 : decide (ws.getD i 0 > 1000000000) = false := by rw [decide_eq_false_iff_not]; omega
    simp only [dlt hi, dge, Bool.and_self, cond_true, Int.toNat_natCast, d1, d2, cond_false, Option.bind_some, Bool.or_self, wrapN (show i < 9223372036854775807 by omega)]
/-- both -/
theorem split_both : ∃ o, Sorted (ws.map (rF a ws.sum)) ws.length o ∧ split_Split N a ws = some (incs (ws.map (qF a ws.sum)) (o.take (a - (ws.map (qF a ws.sum)).sum).toNat), 0) ∧
    r34_Split N a ws = some (incs (ws.map (qF a ws.sum)) (o.take (a - (ws.map (qF a ws.sum)).sum).toNat), 0) := by
  obtain ⟨o, h1, h2⟩ := sort_spec hN (rs := ws.map (rF a ws.sum)) (n := ws.length) (by simp) g.len
  exact ⟨o, h2, split_eq hN g h1 h2, rsplit_eq hN g h2⟩
end
end Go.Proofs.Ytoniopgegcngpaa
