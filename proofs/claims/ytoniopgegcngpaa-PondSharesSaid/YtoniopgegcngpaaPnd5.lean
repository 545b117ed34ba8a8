/- The ponds: Split, as the code and as the reference compute it, in plain words. No condition. -/
import Derived.Test.YtoniopgegcngpaaPnd4
namespace Go.Proofs.Ytoniopgegcngpaa
open Go.Cm Go.Proofs
/-! lists -/
theorem sum_set : ∀ (l : List Int) (i : Nat) (x : Int), i < l.length → (l.set i x).sum = l.sum - l.getD i 0 + x
  | [], _, _, h => by simp at h
  | y :: l, 0, x, _ => by simp; omega
  | y :: l, i + 1, x, h => by
    have := sum_set l i x (by simpa using h)
    simp only [List.set_cons_succ, List.sum_cons, this, List.getD_cons_succ]
    omega
def inc1 (ps : List Int) (v : Int) : List Int := ps.set v.toNat (IntKind.i64.wrap (ps.getD v.toNat 0 + 1))
def incs (q : List Int) (T : List Int) : List Int := T.foldl inc1 q
theorem incs_step (q T : List Int) (k : Nat) (hk : k < T.length) : incs q (T.take (k + 1)) = inc1 (incs q (T.take k)) (T.getD k 0) := by
  unfold incs
  rw [take_getD T k 0 hk, List.foldl_append]
  rfl
theorem incs_len (q T : List Int) : (incs q T).length = q.length := by
  unfold incs
  induction T generalizing q with
  | nil => rfl
  | cons v T ih => rw [List.foldl_cons, ih]; simp [inc1]
theorem mem_set {α : Type} {l : List α} {i : Nat} {x y : α} (h : y ∈ l.set i x) : y = x ∨ y ∈ l := by
  rcases List.mem_or_eq_of_mem_set h with h | h
  · exact .inr h
  · exact .inl h
theorem incs_spec : ∀ (T q : List Int) (B : Int), (∀ x, x ∈ q → 0 ≤ x ∧ x ≤ B) → (∀ v, v ∈ T → 0 ≤ v ∧ v < q.length) → 0 ≤ B → B + T.length ≤ 4611686018427387904 → (incs q T).sum = q.sum + T.length ∧ ∀ x, x ∈ incs q T → 0 ≤ x ∧ x ≤ B + T.length
  | [], q, B, hq, _, _, _ => ⟨by simp [incs], fun x hx => by simpa using hq x hx⟩
  | v :: T, q, B, hq, hT, hB, hlim => by
    have hv := hT v (List.mem_cons_self ..)
    have hvl : v.toNat < q.length := by omega
    have hqv := hq _ (getD_mem q v.toNat 0 hvl)
    simp only [List.length_cons] at hlim ⊢
    have hw : IntKind.i64.wrap (q.getD v.toNat 0 + 1) = q.getD v.toNat 0 + 1 := wrap64 (by omega) (by omega)
    have hs : inc1 q v = q.set v.toNat (q.getD v.toNat 0 + 1) := by unfold inc1; rw [hw]
    obtain ⟨h1, h2⟩ := incs_spec T (inc1 q v) (B + 1) (fun x hx => by
      rw [hs] at hx
      rcases mem_set hx with rfl | hx
      · omega
      · have := hq x hx; omega) (fun u hu => by have := hT u (List.mem_cons_of_mem _ hu); simp only [inc1, List.length_set]; exact this) (by omega) (by omega)
    have e : incs q (v :: T) = incs (inc1 q v) T := rfl
    rw [e]
    refine ⟨?_, fun x hx => by have := h2 x hx; omega⟩
    rw [h1, hs, sum_set _ _ _ hvl]
    omega
theorem incs_get : ∀ (T q : List Int) (B : Int), (∀ x, x ∈ q → 0 ≤ x ∧ x ≤ B) → (∀ v, v ∈ T → 0 ≤ v ∧ v < q.length) → 0 ≤ B → B + T.length ≤ 4611686018427387904 → T.Nodup → ∀ i : Nat, i < q.length → (incs q T).getD i 0 = q.getD i 0 + bif T.contains (i : Int) then 1 else 0
  | [], q, B, _, _, _, _, _, i, _ => by simp [incs]
  | v :: T, q, B, hq, hT, hB, hlim, hnd, i, hi => by
    have hv := hT v (List.mem_cons_self ..)
    have hvl : v.toNat < q.length := by omega
    have hqv := hq _ (getD_mem q v.toNat 0 hvl)
    simp only [List.length_cons] at hlim
    have hw : IntKind.i64.wrap (q.getD v.toNat 0 + 1) = q.getD v.toNat 0 + 1 := wrap64 (by omega) (by omega)
    have hs : inc1 q v = q.set v.toNat (q.getD v.toNat 0 + 1) := by unfold inc1; rw [hw]
    rw [List.nodup_cons] at hnd
    have ih := incs_get T (inc1 q v) (B + 1) (fun x hx => by
      rw [hs] at hx
      rcases mem_set hx with rfl | hx
      · omega
      · have := hq x hx; omega) (fun u hu => by have := hT u (List.mem_cons_of_mem _ hu); simp only [inc1, List.length_set]; exact this) (by omega) (by omega) hnd.2 i (by simp only [inc1, List.length_set]; exact hi)
    have e : incs q (v :: T) = incs (inc1 q v) T := rfl
    rw [e, ih, hs, getD_set _ _ _ _ _ hvl]
    by_cases hiv : v.toNat = i
    · rw [if_pos hiv]
      have h1 : (v :: T).contains (i : Int) = true := by simp; omega
      have h2 : T.contains (i : Int) = false := by
        rw [List.contains_eq_mem, decide_eq_false_iff_not]
        intro h
        have : (i : Int) = v := by omega
        rw [this] at h
        exact hnd.1 h
      rw [h1, h2, cond_true, cond_false, hiv]
      omega
    · rw [if_neg hiv]
      have : (v :: T).contains (i : Int) = T.contains (i : Int) := by
        rw [List.contains_cons]
        have : ((i : Int) == v) = false := by rw [beq_eq_false_iff_ne]; omega
        rw [this, Bool.false_or]
      rw [this]
def marks (r : List Int) (T : List Int) : List Int := T.foldl (fun rs v => rs.set v.toNat (-1)) r
theorem marks_step (r T : List Int) (k : Nat) (hk : k < T.length) : marks r (T.take (k + 1)) = (marks r (T.take k)).set (T.getD k 0).toNat (-1) := by
  unfold marks
  rw [take_getD T k 0 hk, List.foldl_append]
  rfl
theorem marks_len (r T : List Int) : (marks r T).length = r.length := by
  unfold marks
  induction T generalizing r with
  | nil => rfl
  | cons v T ih => rw [List.foldl_cons, ih]; simp
theorem marks_get : ∀ (T r : List Int), (∀ v, v ∈ T → 0 ≤ v ∧ v < r.length) → ∀ i : Nat, i < r.length → (marks r T).getD i 0 = bif T.contains (i : Int) then -1 else r.getD i 0
  | [], r, _, i, _ => by simp [marks]
  | v :: T, r, hT, i, hi => by
    have hv := hT v (List.mem_cons_self ..)
    have ih := marks_get T (r.set v.toNat (-1)) (fun u hu => by have := hT u (List.mem_cons_of_mem _ hu); rw [List.length_set]; exact this) i (by rw [List.length_set]; exact hi)
    have e : marks r (v :: T) = marks (r.set v.toNat (-1)) T := rfl
    rw [e, ih, getD_set _ _ _ _ _ (by omega), List.contains_cons]
    by_cases hiv : v.toNat = i
    · rw [if_pos hiv]
      have : ((i : Int) == v) = true := by rw [beq_iff_eq]; omega
      rw [this, Bool.true_or, cond_true]
      cases T.contains (i : Int) <;> rfl
    · rw [if_neg hiv]
      have : ((i : Int) == v) = false := by rw [beq_eq_false_iff_ne]; omega
      rw [this, Bool.false_or]
/-! exact parts -/
def qF (a S w : Int) : Int := a * w / S
def rF (a S w : Int) : Int := a * w % S
structure Good (a : Int) (ws : List Int) : Prop where
  len : ws.length ≤ 8
  wt : ∀ w, w ∈ ws → 0 ≤ w ∧ w ≤ 1000000000
  pos : 0 < a
  le : a ≤ ws.sum
theorem sum_ge (l : List Int) (h : ∀ w, w ∈ l → 0 ≤ w) : 0 ≤ l.sum ∧ ∀ w, w ∈ l → w ≤ l.sum := by
  induction l with
  | nil => exact ⟨by simp, fun w hw => by simp at hw⟩
  | cons y l ih =>
    have h1 := h y (List.mem_cons_self ..)
    obtain ⟨h2, h3⟩ := ih fun w hw => h w (List.mem_cons_of_mem _ hw)
    refine ⟨by simp only [List.sum_cons]; omega, fun w hw => ?_⟩
    simp only [List.sum_cons]
    rcases List.mem_cons.1 hw with rfl | hw
    · omega
    · have := h3 w hw; omega
section
variable {a : Int} {ws : List Int} (g : Good a ws)
include g
theorem Good.sum : ws.sum ≤ 8000000000 ∧ 0 < ws.sum ∧ a ≤ 8000000000 ∧ ∀ w, w ∈ ws → w ≤ ws.sum := by
  have h1 := sum_bound (fun w : Int => w) 1000000000 ws g.wt
  have h2 := g.len
  have h3 := g.pos
  have h4 := g.le
  simp only [List.map_id'] at h1
  exact ⟨by omega, by omega, by omega, (sum_ge ws fun w hw => (g.wt w hw).1).2⟩
theorem Good.q {w : Int} (hw : w ∈ ws) : 0 ≤ qF a ws.sum w ∧ qF a ws.sum w ≤ a ∧ 0 ≤ rF a ws.sum w ∧ rF a ws.sum w < ws.sum ∧ a * w < 9223372036854775808 := by
  obtain ⟨h1, h2, h3, h4⟩ := g.sum
  have hb := g.wt w hw
  have hp := g.pos
  have hm : 0 ≤ a * w := Int.mul_nonneg (by omega) hb.1
  have hm2 : a * w ≤ a * ws.sum := Int.mul_le_mul_of_nonneg_left (h4 w hw) (by omega)
  have hm3 : a * w ≤ 8000000000 * 1000000000 := Int.mul_le_mul h3 hb.2 hb.1 (by omega)
  refine ⟨Int.ediv_nonneg hm (by omega), ?_, Int.emod_nonneg _ (by omega), Int.emod_lt_of_pos _ h2, by omega⟩
  have := Int.ediv_le_ediv h2 hm2
  rwa [Int.mul_ediv_cancel _ (show ws.sum ≠ 0 by omega)] at this
omit g in
/-- what is left -/
theorem parts_sum (S : Int) (l : List Int) : a * l.sum = S * (l.map (qF a S)).sum + (l.map (rF a S)).sum := by
  induction l with
  | nil => simp
  | cons w l ih =>
    have e := Int.mul_ediv_add_emod (a * w) S
    simp only [List.map_cons, List.sum_cons, Int.mul_add, ih, qF, rF]
    omega
theorem Good.left : 0 ≤ a - (ws.map (qF a ws.sum)).sum ∧ a - (ws.map (qF a ws.sum)).sum < ws.length ∧ ws.sum * (a - (ws.map (qF a ws.sum)).sum) = (ws.map (rF a ws.sum)).sum := by
  obtain ⟨h1, h2, h3, h4⟩ := g.sum
  have hp := parts_sum (a := a) ws.sum ws
  have hr := sum_bound (rF a ws.sum) (ws.sum - 1) ws (fun w hw => by have := g.q hw; omega)
  have hn : 0 < ws.length := by
    cases ws with
    | nil => simp at h2
    | cons => simp
  generalize hQ : (ws.map (qF a ws.sum)).sum = Q at *
  generalize hR : (ws.map (rF a ws.sum)).sum = R at *
  have e1 : ws.sum * (a - Q) = R := by rw [Int.mul_sub, Int.mul_comm ws.sum a]; omega
  have e2 : (ws.sum - 1) * (ws.length : Int) = ws.sum * ws.length - ws.length := by rw [Int.sub_mul, Int.one_mul]
  refine ⟨?_, ?_, e1⟩
  · apply Int.not_lt.1
    intro hlt
    have : ws.sum * (a - Q) ≤ ws.sum * (-1) := Int.mul_le_mul_of_nonneg_left (by omega) (by omega)
    omega
  · apply Int.not_le.1
    intro hle
    have : ws.sum * (ws.length : Int) ≤ ws.sum * (a - Q) := Int.mul_le_mul_of_nonneg_left hle (by omega)
    omega
end
theorem getD_q (a S : Int) (ws : List Int) (i : Nat) (hi : i < ws.length) (f : Int → Int) : (ws.map f).getD i 0 = f (ws.getD i 0) := getD_map f ws i 0 0 hi
/-! the sum of a list -/
section
variable {N : Nat} (hN : 1000 < N)
include hN
theorem rsum_eq (l : List Int) (hl : l.length ≤ 900) (h : ∀ x, x ∈ l → 0 ≤ x ∧ x ≤ 1000000000000) : r34_sum N l = some l.sum := by
  unfold r34_sum
  refine (bindT (fun i => ((l.take i).sum, (i : Int))) rfl l.sum l.length (show l.length < N by omega) (fun i hi => ?_) ?_).trans rfl
  · have hp := h _ (getD_mem l i 0 hi)
    have hb := sum_bound (fun x : Int => x) 1000000000000 (l.take i) (fun x hx => h x (List.mem_of_mem_take hx))
    have hs := sum_step (fun x : Int => x) l 0 i hi
    simp only [List.map_id'] at hb hs
    have hlen : (l.take i).length ≤ 900 := by simp; omega
    simp only [dlt hi, dge, Bool.and_self, cond_true, Int.toNat_natCast, wrapC (show i < 9223372036854775807 by omega)]
    rw [wrap64 (by omega) (by omega), hs]
  · simp only [dnlt, cond_false, List.take_length]
theorem check_eq {a : Int} {ws : List Int} (g : Good a ws) : split_check N a ws = some (ws.sum, 0) := by
  obtain ⟨h1, h2, h3, h4⟩ := g.sum
  have hl := g.len
  have hp := g.pos
  unfold split_check
  have c1 : decide ((ws.length : Int) > 64) = false := by rw [decide_eq_false_iff_not]; omega
  have c2 : decide (a < 0) = false := by rw [decide_eq_false_iff_not]; omega
  have c3 : decide (a > 1099511627776) = false := by rw [decide_eq_false_iff_not]; omega
  simp only [c1, c2, c3, cond_false, cond_or, Bool.or_self, Option.bind_some]
  rw [through () ws.length (by omega) (fun i hi => ?_) (by simp)]
  · simp only [Option.bind_some, Sum.elim_inl]
    refine (bindT (fun i => ((ws.take i).sum, (i : Int))) rfl (Sum.inl ws.sum) ws.length (show ws.length < N by omega) (fun i hi => ?_) ?_).trans ?_
    · have hw := g.wt _ (getD_mem ws i 0 hi)
      have hb := sum_bound (fun x : Int => x) 1000000000 (ws.take i) (fun x hx => g.wt x (List.mem_of_mem_take hx))
      have hs := sum_step (fun x : Int => x) ws 0 i hi
      simp only [List.map_id'] at hb hs
      have hlen : (ws.take i).length ≤ 8 := by simp; omega
      have hplus : split_plus N (ws.take i).sum (ws.getD i 0) = some ((ws.take i).sum + ws.getD i 0, true) := by
        unfold split_plus
        rw [wrap64 (z := 1099511627776 - (ws.take i).sum) (by omega) (by omega), wrap64 (z := -1099511627776 - (ws.take i).sum) (by omega) (by omega), wrap64 (by omega) (by omega)]
        have d1 : decide (ws.getD i 0 > 1099511627776 - (ws.take i).sum) = false := by rw [decide_eq_false_iff_not]; omega
        have d2 : decide (ws.getD i 0 < -1099511627776 - (ws.take i).sum) = false := by rw [decide_eq_false_iff_not]; omega
        simp only [d1, d2, cond_false, Option.bind_some]
      simp only [dlt hi, dge, Bool.and_self, cond_true, Int.toNat_natCast, split_check_1, Option.bind_some, hplus, Bool.not_true, cond_false, wrapC (show i < 9223372036854775807 by omega), hs]
    · simp only [dnlt, cond_false, List.take_length]
    · have : (ws.sum == 0) = false := by rw [beq_eq_false_iff_ne]; omega
      simp only [Sum.elim_inl, this, cond_false]
  · have hw := g.wt _ (getD_mem ws i 0 hi)
    have d1 : decide (ws.getD i 0 < 0) = false := by rw [decide_eq_false_iff_not]; omega
    have d2 : decide (ws.getD i 0 > 1000000000) = false := by rw [decide_eq_false_iff_not]; omega
    simp only [dlt hi, dge, Bool.and_self, cond_true, Int.toNat_natCast, d1, d2, cond_false, Option.bind_some, Bool.or_self, wrapN (show i < 9223372036854775807 by omega)]
end
end Go.Proofs.Ytoniopgegcngpaa
