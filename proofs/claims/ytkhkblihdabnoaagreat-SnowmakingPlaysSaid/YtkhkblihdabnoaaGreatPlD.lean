/- Own texts in one module: Sng6 Sng7. No condition. -/
import Derived.Test.YtkhkblihdabnoaaGreatPlB
/- Snowmaking: flows and pressures of right pipes are what the references say. No condition. -/
namespace Go.Proofs.YtkhkblihdabnoaaGreat
open Go.Cm Go.Proofs
def par (l : List Pipe) (k : Nat) : Option Nat := fst (fun j => (l.getD j z_Pipe).To == (l.getD k z_Pipe).From) l.length
theorem to_inj {l : List Pipe} (h : PipesOk l) {i j : Nat} (hi : i < l.length) (hj : j < l.length) (e : (l.getD i z_Pipe).To = (l.getD j z_Pipe).To) : i = j := by
  rcases Nat.lt_trichotomy i j with h1 | h1 | h1
  · exact absurd e (h.one j i h1 hj)
  · exact h1
  · exact absurd e.symm (h.one i j h1 hi)
theorem par_from {l : List Pipe} {k p : Nat} (hp : par l k = some p) : p < l.length ∧ (l.getD p z_Pipe).To = (l.getD k z_Pipe).From := by
  obtain ⟨a, b, _⟩ := fst_some.1 hp
  exact ⟨a, by simpa using b⟩
theorem par_lt {l : List Pipe} (h : PipesOk l) {k p : Nat} (hk : k < l.length) (hp : par l k = some p) : p < k := by
  obtain ⟨a, b⟩ := par_from hp
  rcases h.up k hk with h0 | ⟨j, hj, e⟩
  · have := h.to p a
    omega
  · have := to_inj h a (show j < l.length by omega) (b.trans e.symm)
    omega
theorem par_none {l : List Pipe} (h : PipesOk l) {k : Nat} (hk : k < l.length) (hp : par l k = none) : (l.getD k z_Pipe).From = 0 := by
  rcases h.up k hk with h0 | ⟨j, hj, e⟩
  · exact h0
  · have := fst_none.1 hp j (by omega)
    simp only [e, beq_self_eq_true] at this
    cases this
def pathL (l : List Pipe) (k : Nat) : List Nat := (match par l k with | some p => if _h : p < k then pathL l p else [] | none => []) ++ [k]
termination_by k
def reach (l : List Pipe) (m j k : Nat) : Bool := (j == k) || (match par l k with | some p => if _h : p < k then decide (m ≤ k) && reach l m j p else false | none => false)
termination_by k
section
variable {l : List Pipe} (h : PipesOk l)
theorem path_none {k : Nat} (hp : par l k = none) : pathL l k = [k] := by rw [pathL, hp]; rfl
theorem reach_none {m j k : Nat} (hp : par l k = none) : reach l m j k = (j == k) := by rw [reach, hp]; simp
include h
theorem path_some {k p : Nat} (hk : k < l.length) (hp : par l k = some p) : pathL l k = pathL l p ++ [k] := by
  rw [pathL, hp]
  simp only [par_lt h hk hp, dif_pos]
theorem reach_some {m j k p : Nat} (hk : k < l.length) (hp : par l k = some p) : reach l m j k = ((j == k) || (decide (m ≤ k) && reach l m j p)) := by
  rw [reach, hp]
  simp only [par_lt h hk hp, dif_pos]
theorem path_ind {P : Nat → Prop} (h0 : ∀ k, k < l.length → par l k = none → P k) (h1 : ∀ k p, k < l.length → par l k = some p → p < k → P p → P k) : ∀ k, k < l.length → P k := fun k => by
  induction k using Nat.strongRecOn with
  | _ k ih =>
    intro hk
    cases hp : par l k with
    | none => exact h0 k hk hp
    | some p => exact h1 k p hk hp (par_lt h hk hp) (ih p (par_lt h hk hp) (par_from hp).1)
theorem path_facts {k : Nat} (hk : k < l.length) : (pathL l k).Pairwise (· < ·) ∧ ∀ j, j ∈ pathL l k → j ≤ k := by
  refine path_ind h (P := fun k => (pathL l k).Pairwise (· < ·) ∧ ∀ j, j ∈ pathL l k → j ≤ k) (fun k _ hp => ?_) (fun k p hk hp hlt ih => ?_) k hk
  · rw [path_none hp]
    exact ⟨List.pairwise_singleton _ _, fun j hj => by rw [List.mem_singleton] at hj; omega⟩
  · rw [path_some h hk hp]
    refine ⟨List.pairwise_append.2 ⟨ih.1, List.pairwise_singleton _ _, fun a ha b hb => ?_⟩, fun j hj => ?_⟩
    · rw [List.mem_singleton] at hb
      have := ih.2 a ha
      omega
    · rcases List.mem_append.1 hj with hj | hj
      · have := ih.2 j hj
        omega
      · rw [List.mem_singleton] at hj
        omega
theorem path_has {k : Nat} (hk : k < l.length) (j : Nat) : (pathL l k).contains j = reach l 0 j k := by
  refine path_ind h (P := fun k => (pathL l k).contains j = reach l 0 j k) (fun k _ hp => ?_) (fun k p hk hp _ ih => ?_) k hk
  · rw [path_none hp, reach_none hp, List.contains_cons, List.contains_nil, Bool.or_false]
  · rw [path_some h hk hp, reach_some h hk hp, ← ih]
    simp only [List.contains_append, Nat.zero_le, decide_true, Bool.true_and, List.contains_cons, List.contains_nil, Bool.or_false]
    rw [Bool.or_comm]
theorem reach_le {m j k : Nat} (hk : k < l.length) : reach l m j k = true → j ≤ k := by
  refine path_ind h (P := fun k => reach l m j k = true → j ≤ k) (fun k _ hp hr => ?_) (fun k p hk hp hlt ih hr => ?_) k hk
  · rw [reach_none hp, beq_iff_eq] at hr
    omega
  · rw [reach_some h hk hp, Bool.or_eq_true, beq_iff_eq, Bool.and_eq_true] at hr
    rcases hr with hr | hr
    · omega
    · have := ih hr.2
      omega
theorem reach_top {m j k : Nat} (hk : k < l.length) (hm : k < m) : reach l m j k = (j == k) := by
  cases hp : par l k with
  | none => exact reach_none hp
  | some p =>
    rw [reach_some h hk hp]
    have : decide (m ≤ k) = false := by rw [decide_eq_false_iff_not]; omega
    rw [this]
    simp
theorem reach_step {m j k : Nat} (hm : m < l.length) (hk : k < l.length) (F : Int) : (bif reach l m j k then F else 0) = (bif reach l (m + 1) j k then F else 0) + bif par l m == some j then (bif reach l (m + 1) m k then F else 0) else 0 := by
  refine path_ind h (P := fun k => (bif reach l m j k then F else 0) = (bif reach l (m + 1) j k then F else 0) + bif par l m == some j then (bif reach l (m + 1) m k then F else 0) else 0) (fun k _ hp => ?_) (fun k p hk hp hlt ih => ?_) k hk
  · rw [reach_none hp, reach_none hp, reach_none hp]
    have : (bif par l m == some j then (bif m == k then F else 0) else 0) = 0 := by
      cases hmk : m == k with
      | false => cases par l m == some j <;> rfl
      | true =>
        rw [beq_iff_eq] at hmk
        subst hmk
        rw [hp]
        rfl
    rw [this, Int.add_zero]
  · by_cases hjk : j = k
    · subst hjk
      have r1 : reach l m j j = true := by rw [reach_some h hk hp]; simp
      have r2 : reach l (m + 1) j j = true := by rw [reach_some h hk hp]; simp
      rw [r1, r2]
      have : (bif par l m == some j then (bif reach l (m + 1) m j then F else 0) else 0) = 0 := by
        cases hpm : par l m == some j with
        | false => rfl
        | true =>
          rw [beq_iff_eq] at hpm
          have := par_lt h hm hpm
          cases hr : reach l (m + 1) m j with
          | false => rfl
          | true => have := reach_le h hk hr; omega
      rw [this, Int.add_zero]
    · have hb : (j == k) = false := by rw [beq_eq_false_iff_ne]; exact hjk
      rw [reach_some h hk hp, reach_some h hk hp, reach_some h hk hp, hb, Bool.false_or, Bool.false_or]
      rcases Nat.lt_trichotomy m k with hmk | hmk | hmk
      · have e1 : decide (m ≤ k) = true := by rw [decide_eq_true_eq]; omega
        have e2 : decide (m + 1 ≤ k) = true := by rw [decide_eq_true_eq]; omega
        have e3 : (m == k) = false := by rw [beq_eq_false_iff_ne]; omega
        rw [e1, e2, e3, Bool.true_and, Bool.true_and, Bool.false_or, Bool.true_and]
        exact ih
      · subst hmk
        have e1 : decide (m ≤ m) = true := by simp
        have e2 : decide (m + 1 ≤ m) = false := by simp
        rw [e1, e2, Bool.true_and, Bool.false_and, reach_top h (par_from hp).1 hlt, hp]
        have e4 : (some p == some j) = (j == p) := by
          rw [Bool.eq_iff_iff, beq_iff_eq, beq_iff_eq, Option.some.injEq]
          exact eq_comm
        rw [e4]
        simp
      · have e1 : decide (m ≤ k) = false := by rw [decide_eq_false_iff_not]; omega
        have e2 : decide (m + 1 ≤ k) = false := by rw [decide_eq_false_iff_not]; omega
        have e3 : (m == k) = false := by rw [beq_eq_false_iff_ne]; omega
        rw [e1, e2, e3]
        cases par l m == some j <;> rfl
end
/-! rows of numbers -/
def vec (n : Nat) (f : Nat → Int) : List Int := (List.range n).map f
theorem vec_len (n : Nat) (f : Nat → Int) : (vec n f).length = n := by simp [vec]
theorem vec_get {n : Nat} (f : Nat → Int) {j : Nat} (hj : j < n) : (vec n f).getD j 0 = f j := by
  unfold vec
  rw [getD_map f (List.range n) j 0 0 (by simpa using hj)]
  simp [List.getD, hj]
theorem vec_congr {n : Nat} {f g : Nat → Int} (h : ∀ j, j < n → f j = g j) : vec n f = vec n g := by
  unfold vec
  exact List.map_congr_left fun j hj => h j (by simpa using hj)
theorem vec_set {n : Nat} (f : Nat → Int) {i : Nat} (hi : i < n) (v : Int) : (vec n f).set i v = vec n (fun j => if i = j then v else f j) := by
  refine list_ext 0 (by simp [vec]) fun j hj => ?_
  have hj : j < n := by simpa [vec] using hj
  rw [getD_set _ _ _ _ _ (by rw [vec_len]; exact hi), vec_get _ hj, vec_get _ hj]
theorem vec_zero (n : Nat) : List.replicate n (0 : Int) = vec n (fun _ => 0) := by
  unfold vec
  rw [List.map_const', List.length_range]
/-! draws -/
def kd (l : List Pipe) (d : Draw) : Nat := (fst (fun j => (l.getD j z_Pipe).To == d.Node) l.length).getD 0
def DrawOk (l : List Pipe) (d : Draw) : Prop := ∃ k, fst (fun j => (l.getD j z_Pipe).To == d.Node) l.length = some k
theorem kd_spec {l : List Pipe} {d : Draw} (h : DrawOk l d) : fst (fun j => (l.getD j z_Pipe).To == d.Node) l.length = some (kd l d) ∧ kd l d < l.length ∧ (l.getD (kd l d) z_Pipe).To = d.Node := by
  obtain ⟨k, hk⟩ := h
  have e : kd l d = k := by unfold kd; rw [hk]; rfl
  obtain ⟨a, b, _⟩ := fst_some.1 hk
  rw [e]
  exact ⟨hk, a, by simpa using b⟩
def flw (l : List Pipe) (m j : Nat) (ds : List Draw) : Int := (ds.map fun d => bif reach l m j (kd l d) then d.Flow else 0).sum
theorem flw_bound (l : List Pipe) (m j : Nat) {ds : List Draw} (h : ∀ d, d ∈ ds → 0 ≤ d.Flow ∧ d.Flow ≤ 10000) : 0 ≤ flw l m j ds ∧ flw l m j ds ≤ 10000 * ds.length :=
  Pn.sum_bound _ 10000 ds fun d hd => by
    have := h d hd
    cases reach l m j (kd l d) <;> simp only [cond_true, cond_false] <;> omega
theorem flw_take (l : List Pipe) (m j : Nat) (ds : List Draw) {t : Nat} (ht : t < ds.length) : flw l m j (ds.take (t + 1)) = flw l m j (ds.take t) + bif reach l m j (kd l (ds.getD t z_Draw)) then (ds.getD t z_Draw).Flow else 0 :=
  Pn.sum_step (fun d => bif reach l m j (kd l d) then d.Flow else 0) ds z_Draw t ht
theorem flw_step {l : List Pipe} (h : PipesOk l) {m : Nat} (hm : m < l.length) (j : Nat) {ds : List Draw} (hd : ∀ d, d ∈ ds → DrawOk l d) : flw l m j ds = flw l (m + 1) j ds + bif par l m == some j then flw l (m + 1) m ds else 0 := by
  unfold flw
  have e : (ds.map fun d => bif reach l m j (kd l d) then d.Flow else 0).sum = (ds.map fun d => (bif reach l (m + 1) j (kd l d) then d.Flow else 0) + bif par l m == some j then (bif reach l (m + 1) m (kd l d) then d.Flow else 0) else 0).sum :=
    sum_congr fun d hd' => reach_step h hm (kd_spec (hd d hd')).2.1 d.Flow
  rw [e, sum_add]
  cases par l m == some j with
  | true => rfl
  | false => simp only [cond_false]; rw [sum_zero _ ds fun _ _ => rfl]
section
variable {N : Nat} (hN : 1000 < N) {l : List Pipe} (h : PipesOk l) (hl : l.length ≤ 900)
include hN h hl
omit h in
theorem find_kd {d : Draw} (hd : DrawOk l d) : pipe_find N l d.Node = some ((kd l d : Nat) : Int) := by
  rw [find_eq hN l hl, (kd_spec hd).1]
  rfl
theorem flows_eq {ds : List Draw} (hd : ∀ d, d ∈ ds → DrawOk l d) (hf : ∀ d, d ∈ ds → 0 ≤ d.Flow ∧ d.Flow ≤ 10000) (hlen : ds.length ≤ 900) : pipe_Flows N l ds = some (vec l.length fun j => flw l 0 j ds) := by
  unfold pipe_Flows
  have c1 : decide ((l.length : Int) ≤ (l.length : Int)) = true := by simp
  have c2 : decide ((l.length : Int) * 8 ≤ 140737488355328) = true := by rw [decide_eq_true_eq]; omega
  simp only [c1, c2, Bool.and_self, cond_true, Option.bind_some, Int.toNat_natCast]
  refine (bindT (fun t => ((t : Int), vec l.length fun j => flw l l.length j (ds.take t))) (by rw [vec_zero]; rfl) (vec l.length fun j => flw l l.length j ds) ds.length (show ds.length < N by omega) (fun t ht => ?_) ?_).trans ?_
  · have hdt := hd _ (getD_mem ds t z_Draw ht)
    obtain ⟨_, k1, _⟩ := kd_spec hdt
    have g0 : decide (((kd l (ds.getD t z_Draw) : Nat) : Int) ≥ 0) = true := by simp
    have hb := flw_bound l l.length (kd l (ds.getD t z_Draw)) (ds := ds.take (t + 1)) fun d hd => hf d (List.mem_of_mem_take hd)
    have hbl : (ds.take (t + 1)).length ≤ 900 := by simp; omega
    have hs := fun j => flw_take l l.length j ds ht
    have hr := fun j => reach_top h (m := l.length) (j := j) k1 k1
    simp only [hr] at hs
    simp only [dlt ht, dge, Bool.and_self, cond_true, Int.toNat_natCast, find_kd hN hl hdt, Option.bind_some, g0, vec_len, dlt k1, vec_get _ k1, wrapC (show t < 9223372036854775807 by omega)]
    rw [hs, beq_self_eq_true, cond_true] at hb
    rw [vec_set _ k1, wrap64 (by omega) (by omega)]
    congr 3
    refine vec_congr fun j hj => ?_
    rw [hs j]
    by_cases hkj : kd l (ds.getD t z_Draw) = j
    · rw [if_pos hkj, ← hkj, beq_self_eq_true, cond_true]
    · have : (j == kd l (ds.getD t z_Draw)) = false := by rw [beq_eq_false_iff_ne]; exact fun e => hkj e.symm
      rw [if_neg hkj, this, cond_false, Int.add_zero]
  · simp only [dnlt, cond_false, List.take_length]
  · refine (bindT (fun s : Nat => ((l.length : Int) - 1 - s, vec l.length fun j => flw l (l.length - s) j ds)) (by rw [wrap64 (by omega) (by omega)]; simp) (vec l.length fun j => flw l 0 j ds) l.length (show l.length < N by omega) (fun s hs => ?_) ?_).trans rfl
    · obtain ⟨m, hm, e0⟩ : ∃ m : Nat, m + s + 1 = l.length ∧ (l.length : Int) - 1 - s = (m : Int) := ⟨l.length - 1 - s, by omega, by omega⟩
      have e1 : l.length - s = m + 1 := by omega
      have e2 : l.length - (s + 1) = m := by omega
      have e3 : (l.length : Int) - 1 - ((s + 1 : Nat) : Int) = (m : Int) - 1 := by omega
      have hml : m < l.length := by omega
      have g0 : decide ((m : Int) ≥ 0) = true := by simp
      have hfd : pipe_find N l (l.getD m z_Pipe).From = some (oi (par l m)) := find_eq hN l hl _
      have hw : IntKind.i64.wrap ((m : Int) - 1) = (m : Int) - 1 := wrap64 (by omega) (by omega)
      simp only [e0, e1, e2, e3, g0, cond_true, dge, dlt hml, Bool.and_self, vec_len, Int.toNat_natCast, hfd, Option.bind_some, hw]
      have hst := fun j => flw_step h hml j hd
      cases hp : par l m with
      | none =>
        have : decide (oi none ≥ 0) = false := by decide
        simp only [this, cond_false]
        congr 3
        refine vec_congr fun j _ => ?_
        rw [hst j, hp]
        simp
      | some p =>
        have hpl := (par_from hp).1
        have g1 : decide (oi (some p) ≥ 0) = true := by simp [oi]
        have g2 : decide (oi (some p) < (l.length : Int)) = true := by simp [oi, hpl]
        have g3 : (oi (some p)).toNat = p := rfl
        simp only [g1, cond_true, g2, g3, Bool.and_self, vec_get _ hpl, vec_get _ hml]
        have b1 := flw_bound l m p hf
        rw [hst p, hp, beq_self_eq_true, cond_true] at b1
        rw [vec_set _ hpl, wrap64 (by omega) (by omega)]
        congr 3
        refine vec_congr fun j _ => ?_
        rw [hst j, hp]
        by_cases hpj : p = j
        · subst hpj
          rw [if_pos rfl, beq_self_eq_true, cond_true]
        · have : (some p == some j) = false := by rw [beq_eq_false_iff_ne]; exact fun e => hpj (Option.some.inj e)
          rw [if_neg hpj, this, cond_false, Int.add_zero]
    · have e0 : (l.length : Int) - 1 - (l.length : Nat) = -1 := by omega
      have e1 : l.length - l.length = 0 := by omega
      have g0 : decide ((-1 : Int) ≥ 0) = false := by decide
      simp only [e0, e1, g0, cond_false]
/-- the way to a node -/
theorem way_eq {d : Draw} (hd : DrawOk l d) : r40_way N l d.Node = some ((pathL l (kd l d)).map fun j : Nat => (j : Int), true) := by
  obtain ⟨_, k1, k2⟩ := kd_spec hd
  suffices hs : W (fun r : Int × List Int => r = (0, (pathL l (kd l d)).map fun j : Nat => (j : Int))) (whileF N (fun (p2 : Int × List Int × Int) =>
        bif decide (p2.snd.snd ≥ (0 : Int)) then
          bif decide ((0 : Int) ≤ p2.snd.snd) && decide (p2.snd.snd < (↑l.length : Int)) then
            (bif (l.getD (Int.toNat p2.snd.snd) z_Pipe).To == p2.fst then
                  (some [p2.snd.snd]).bind fun (r3 : List Int) =>
                    bif decide ((r3.length + List.length p2.snd.fst) * 8 ≤ 140737488355328) then
                      (some (r3 ++ p2.snd.fst)).bind fun (r4 : List Int) =>
                        bif decide ((0 : Int) ≤ p2.snd.snd) && decide (p2.snd.snd < (↑l.length : Int)) then
                          some ((l.getD (Int.toNat p2.snd.snd) z_Pipe).From, r4)
                        else none
                    else none
                else some (p2.fst, p2.snd.fst)).bind
              fun (r5 : Int × List Int) => some (Sum.inl (r5.fst, r5.snd, IntKind.i64.wrap (p2.snd.snd - (1 : Int))))
          else none
        else some (Sum.inr (p2.fst, p2.snd.fst)))
      (d.Node, [], IntKind.i64.wrap ((↑l.length : Int) - (1 : Int)))) by
    obtain ⟨r, e, rfl⟩ := hs
    unfold r40_way
    rw [e]
    rfl
  refine W_loop (fun s st => st.2.2 = (l.length : Int) - 1 - s ∧ st.2.1.length ≤ s ∧ ∃ P o : List Nat, pathL l (kd l d) = P ++ o ∧ st.2.1 = o.map (fun j : Nat => (j : Int)) ∧ ((P = [] ∧ st.1 = 0) ∨ ∃ q, q + s < l.length ∧ P = pathL l q ∧ st.1 = (l.getD q z_Pipe).To)) l.length
    ⟨by simp only; rw [wrap64 (by omega) (by omega)]; omega, by simp, pathL l (kd l d), [], by simp, rfl, .inr ⟨kd l d, by omega, rfl, k2.symm⟩⟩ (fun s st hs hI => ?_) (fun st hI => ?_) (by omega)
  · obtain ⟨c, out, z⟩ := st
    obtain ⟨hz, hol, P, o, hPo, ho, hc⟩ := hI
    simp only at hz hol ho hc
    obtain ⟨m, hm, e0⟩ : ∃ m : Nat, m + s + 1 = l.length ∧ (l.length : Int) - 1 - s = (m : Int) := ⟨l.length - 1 - s, by omega, by omega⟩
    have hml : m < l.length := by omega
    rw [e0] at hz
    subst hz
    have g0 : decide ((m : Int) ≥ 0) = true := by simp
    have hw : IntKind.i64.wrap ((m : Int) - 1) = (m : Int) - 1 := wrap64 (by omega) (by omega)
    have hb : decide (([(m : Int)].length + out.length) * 8 ≤ 140737488355328) = true := by simp only [List.length_singleton, decide_eq_true_eq]; omega
    simp only [g0, cond_true, dge, dlt hml, Bool.and_self, Int.toNat_natCast, Option.bind_some, hb, hw]
    cases hcm : (l.getD m z_Pipe).To == c with
    | false =>
      simp only [cond_false, Option.bind_some]
      refine W_some ⟨by simp only; omega, by simp only; omega, P, o, hPo, ho, ?_⟩
      rcases hc with hc | ⟨q, q1, q2, q3⟩
      · exact .inl hc
      · refine .inr ⟨q, ?_, q2, q3⟩
        rw [beq_eq_false_iff_ne] at hcm
        have : q ≠ m := fun e => by subst e; exact hcm q3.symm
        omega
    | true =>
      rw [beq_iff_eq] at hcm
      simp only [cond_true, Option.bind_some]
      rcases hc with hc | ⟨q, q1, q2, q3⟩
      · have := h.to m hml
        omega
      · have hqm : q = m := to_inj h (by omega) hml (q3.symm.trans hcm.symm)
        subst hqm
        cases hp : par l q with
        | none =>
          refine W_some ⟨by simp only; omega, by simp only [List.singleton_append, List.length_cons]; omega, [], q :: o, ?_, by simp [ho], .inl ⟨rfl, par_none h hml hp⟩⟩
          rw [hPo, q2, path_none hp]
          rfl
        | some p =>
          have hlt := par_lt h hml hp
          refine W_some ⟨by simp only; omega, by simp only [List.singleton_append, List.length_cons]; omega, pathL l p, q :: o, ?_, by simp [ho], .inr ⟨p, by omega, rfl, (par_from hp).2.symm⟩⟩
          rw [hPo, q2, path_some h hml hp]
          simp
  · obtain ⟨c, out, z⟩ := st
    obtain ⟨hz, hol, P, o, hPo, ho, hc⟩ := hI
    simp only at hz hol ho hc
    have hz : z = -1 := by omega
    subst hz
    have g0 : decide ((-1 : Int) ≥ 0) = false := by decide
    simp only [g0, cond_false]
    rcases hc with ⟨rfl, rfl⟩ | ⟨q, q1, _⟩
    · refine W_some ?_
      simp only [Sum.elim_inr]
      rw [hPo, ho, List.nil_append]
    · omega
theorem rflows_eq {ds : List Draw} (hd : ∀ d, d ∈ ds → DrawOk l d) (hf : ∀ d, d ∈ ds → 0 ≤ d.Flow ∧ d.Flow ≤ 10000) (hlen : ds.length ≤ 900) : r40_Flows N l ds = some (vec l.length fun j => flw l 0 j ds) := by
  unfold r40_Flows
  have c1 : decide ((l.length : Int) ≤ (l.length : Int)) = true := by simp
  have c2 : decide ((l.length : Int) * 8 ≤ 140737488355328) = true := by rw [decide_eq_true_eq]; omega
  simp only [c1, c2, Bool.and_self, cond_true, Option.bind_some, Int.toNat_natCast]
  refine (bindT (fun t => ((t : Int), vec l.length fun j => flw l 0 j (ds.take t))) (by rw [vec_zero]; rfl) (vec l.length fun j => flw l 0 j ds) ds.length (show ds.length < N by omega) (fun t ht => ?_) ?_).trans rfl
  · have hdt := hd _ (getD_mem ds t z_Draw ht)
    have hft := hf _ (getD_mem ds t z_Draw ht)
    obtain ⟨_, k1, _⟩ := kd_spec hdt
    have hpf := path_facts h k1
    have hle : ∀ j, j ∈ pathL l (kd l (ds.getD t z_Draw)) → j < l.length := fun j hj => by have := hpf.2 j hj; omega
    have hpl : (pathL l (kd l (ds.getD t z_Draw))).length ≤ l.length := by
      have hnd : (pathL l (kd l (ds.getD t z_Draw))).Nodup := hpf.1.imp fun hab => Nat.ne_of_lt hab
      have := List.Nodup.length_le_of_subset hnd (l₂ := List.range l.length) fun j hj => List.mem_range.2 (hle j hj)
      simpa using this
    simp only [dlt ht, dge, Bool.and_self, cond_true, Int.toNat_natCast, way_eq hN h hl hdt, Option.bind_some, wrapC (show t < 9223372036854775807 by omega)]
    refine (bindT (fun s => ((s : Int), vec l.length fun j => flw l 0 j (ds.take t) + bif ((pathL l (kd l (ds.getD t z_Draw))).take s).contains j then (ds.getD t z_Draw).Flow else 0)) (by simp) (vec l.length fun j => flw l 0 j (ds.take (t + 1))) (pathL l (kd l (ds.getD t z_Draw))).length (show _ < N by omega) (fun s hs => ?_) ?_).trans rfl
    · have hq := getD_mem (pathL l (kd l (ds.getD t z_Draw))) s 0 hs
      have hql := hle _ hq
      have hgm : ((pathL l (kd l (ds.getD t z_Draw))).map fun j : Nat => (j : Int)).getD s 0 = (((pathL l (kd l (ds.getD t z_Draw))).getD s 0 : Nat) : Int) := getD_map (fun j : Nat => (j : Int)) _ s 0 0 hs
      have htk := take_getD (pathL l (kd l (ds.getD t z_Draw))) s 0 hs
      have hnot : ((pathL l (kd l (ds.getD t z_Draw))).take s).contains ((pathL l (kd l (ds.getD t z_Draw))).getD s 0) = false := by
        rw [Bool.eq_false_iff, ne_eq, List.contains_iff_mem]
        intro hm
        have hpw := hpf.1.sublist (List.take_sublist (s + 1) _)
        rw [htk, List.pairwise_append] at hpw
        exact Nat.lt_irrefl _ (hpw.2.2 _ hm _ (List.mem_singleton.2 rfl))
      have hb := flw_bound l 0 ((pathL l (kd l (ds.getD t z_Draw))).getD s 0) (ds := ds.take t) fun d hd => hf d (List.mem_of_mem_take hd)
      have hbl : (ds.take t).length ≤ 900 := by simp; omega
      generalize hP : pathL l (kd l (ds.getD t z_Draw)) = P at *
      simp only [List.length_map, dlt hs, dge, Bool.and_self, cond_true, Int.toNat_natCast, Option.bind_some, hgm, vec_len, dlt hql, vec_get _ hql, hnot, cond_false, Int.add_zero, wrapC (show s < 9223372036854775807 by omega)]
      rw [vec_set _ hql, wrap64 (by omega) (by omega), htk]
      congr 3
      refine vec_congr fun j _ => ?_
      simp only [List.contains_append, List.contains_cons, List.contains_nil, Bool.or_false]
      by_cases hpj : P.getD s 0 = j
      · subst hpj
        rw [if_pos rfl, beq_self_eq_true, Bool.or_true, cond_true]
      · have : (j == P.getD s 0) = false := by rw [beq_eq_false_iff_ne]; exact fun e => hpj e.symm
        rw [if_neg hpj, this, Bool.or_false]
    · simp only [List.length_map, dnlt, cond_false, Option.bind_some, List.take_length]
      congr 2
      refine vec_congr fun j _ => ?_
      rw [flw_take l 0 j ds ht, path_has h k1]
  · simp only [dnlt, cond_false, List.take_length]
end
/-! pressures -/
def prsS (l : List Pipe) (f : Nat → Int) (k : Nat) (v : Int) : Int := IntKind.i64.wrap (IntKind.i64.wrap (v - (l.getD k z_Pipe).Rise) - IntKind.i64.wrap ((IntKind.i64.wrap ((l.getD k z_Pipe).Loss * f k)).tdiv 1000))
def prs (l : List Pipe) (f : Nat → Int) (root : Int) (k : Nat) : Int := (pathL l k).foldl (fun v i => prsS l f i v) root
def lowL (l : List Pipe) (f : Nat → Int) (root : Int) (ns : List Draw) : List Int := (ns.filter fun d => decide (prs l f root (kd l d) < d.Flow)).map fun d => d.Node
theorem low_step (l : List Pipe) (f : Nat → Int) (root : Int) (ns : List Draw) {t : Nat} (ht : t < ns.length) : lowL l f root (ns.take (t + 1)) = lowL l f root (ns.take t) ++ bif decide (prs l f root (kd l (ns.getD t z_Draw)) < (ns.getD t z_Draw).Flow) then [(ns.getD t z_Draw).Node] else [] := by
  unfold lowL
  rw [take_getD ns t z_Draw ht, List.filter_append, List.map_append]
  congr 1
  cases hq : decide (prs l f root (kd l (ns.getD t z_Draw)) < (ns.getD t z_Draw).Flow) <;> simp only [List.filter_cons, hq, List.filter_nil] <;> rfl
theorem low_len (l : List Pipe) (f : Nat → Int) (root : Int) (ns : List Draw) : (lowL l f root ns).length ≤ ns.length := by
  unfold lowL
  rw [List.length_map]
  exact List.length_filter_le _ _
section
variable {N : Nat} (hN : 1000 < N) {l : List Pipe} (h : PipesOk l) (hl : l.length ≤ 900)
include hN h hl
theorem rpressure_eq {ds : List Draw} (hd : ∀ d, d ∈ ds → DrawOk l d) (hf : ∀ d, d ∈ ds → 0 ≤ d.Flow ∧ d.Flow ≤ 10000) (hlen : ds.length ≤ 900) (root : Int) {x : Draw} (hx : DrawOk l x) : r40_Pressure N l ds root x.Node = some (prs l (fun j => flw l 0 j ds) root (kd l x), true) := by
  obtain ⟨_, k1, _⟩ := kd_spec hx
  have hpf := path_facts h k1
  have hle : ∀ j, j ∈ pathL l (kd l x) → j < l.length := fun j hj => by have := hpf.2 j hj; omega
  have hpl : (pathL l (kd l x)).length ≤ l.length := by
    have hnd : (pathL l (kd l x)).Nodup := hpf.1.imp fun hab => Nat.ne_of_lt hab
    have := List.Nodup.length_le_of_subset hnd (l₂ := List.range l.length) fun j hj => List.mem_range.2 (hle j hj)
    simpa using this
  unfold r40_Pressure prs
  simp only [way_eq hN h hl hx, Option.bind_some, Bool.not_true, cond_false, rflows_eq hN h hl hd hf hlen]
  refine (bindT (fun s => (((pathL l (kd l x)).take s).foldl (fun v i => prsS l (fun j => flw l 0 j ds) i v) root, (s : Int))) rfl ((pathL l (kd l x)).foldl (fun v i => prsS l (fun j => flw l 0 j ds) i v) root) (pathL l (kd l x)).length (show _ < N by omega) (fun s hs => ?_) ?_).trans rfl
  · have hq := getD_mem (pathL l (kd l x)) s 0 hs
    have hql := hle _ hq
    have hgm : ((pathL l (kd l x)).map fun j : Nat => (j : Int)).getD s 0 = (((pathL l (kd l x)).getD s 0 : Nat) : Int) := getD_map (fun j : Nat => (j : Int)) _ s 0 0 hs
    simp only [List.length_map, dlt hs, dge, Bool.and_self, cond_true, Int.toNat_natCast, hgm, dlt hql, vec_len, vec_get _ hql, wrapC (show s < 9223372036854775807 by omega)]
    rw [take_getD _ s 0 hs, List.foldl_append]
    rfl
  · simp only [List.length_map, dnlt, cond_false, List.take_length]
theorem rlow_eq {ds ns : List Draw} (hd : ∀ d, d ∈ ds → DrawOk l d) (hf : ∀ d, d ∈ ds → 0 ≤ d.Flow ∧ d.Flow ≤ 10000) (hlen : ds.length ≤ 900) (root : Int) (hn : ∀ d, d ∈ ns → DrawOk l d) (hnl : ns.length ≤ 900) : r40_Low N l ds root ns = some (lowL l (fun j => flw l 0 j ds) root ns) := by
  unfold r40_Low
  refine (bindT (fun t => (lowL l (fun j => flw l 0 j ds) root (ns.take t), (t : Int))) rfl (lowL l (fun j => flw l 0 j ds) root ns) ns.length (show ns.length < N by omega) (fun t ht => ?_) ?_).trans rfl
  · have hll := low_len l (fun j => flw l 0 j ds) root (ns.take t)
    have htl : (ns.take t).length ≤ t := by simp; omega
    have hb : ∀ y : Int, decide (((lowL l (fun j => flw l 0 j ds) root (ns.take t)).length + [y].length) * 8 ≤ 140737488355328) = true := fun y => by simp only [List.length_singleton, decide_eq_true_eq]; omega
    simp only [dlt ht, dge, Bool.and_self, cond_true, Int.toNat_natCast, rpressure_eq hN h hl hd hf hlen root (hn _ (getD_mem ns t z_Draw ht)), Option.bind_some, Bool.not_true, cond_false, hb, wrapC (show t < 9223372036854775807 by omega)]
    rw [low_step _ _ _ _ ht]
    cases decide (prs l (fun j => flw l 0 j ds) root (kd l (ns.getD t z_Draw)) < (ns.getD t z_Draw).Flow)
    · simp
    · rfl
  · simp only [dnlt, cond_false, List.take_length]
theorem low_eq {ds ns : List Draw} (hd : ∀ d, d ∈ ds → DrawOk l d) (hf : ∀ d, d ∈ ds → 0 ≤ d.Flow ∧ d.Flow ≤ 10000) (hlen : ds.length ≤ 900) (root : Int) (hn : ∀ d, d ∈ ns → DrawOk l d) (hnl : ns.length ≤ 900) : pipe_Low N l ds root ns = some (lowL l (fun j => flw l 0 j ds) root ns) := by
  unfold pipe_Low
  have c1 : decide ((l.length : Int) ≤ (l.length : Int)) = true := by simp
  have c2 : decide ((l.length : Int) * 8 ≤ 140737488355328) = true := by rw [decide_eq_true_eq]; omega
  simp only [flows_eq hN h hl hd hf hlen, c1, c2, Bool.and_self, cond_true, Option.bind_some, Int.toNat_natCast]
  refine (bindT (fun i => ((i : Int), vec l.length fun j => if j < i then prs l (fun j => flw l 0 j ds) root j else 0)) (by rw [vec_zero]; rfl) (vec l.length fun j => prs l (fun j => flw l 0 j ds) root j) l.length (show l.length < N by omega) (fun i hi => ?_) ?_).trans ?_
  · have hnew : ∀ v, v = prs l (fun j => flw l 0 j ds) root i → vec l.length (fun j => if i = j then v else if j < i then prs l (fun j => flw l 0 j ds) root j else 0) = vec l.length (fun j => if j < i + 1 then prs l (fun j => flw l 0 j ds) root j else 0) := fun v hv => vec_congr fun j _ => by
      by_cases hij : i = j
      · subst hij
        rw [if_pos rfl, if_pos (by omega), hv]
      · rw [if_neg hij]
        by_cases hji : j < i
        · rw [if_pos hji, if_pos (by omega)]
        · rw [if_neg hji, if_neg (by omega)]
    have hfd : pipe_find N l (l.getD i z_Pipe).From = some (oi (par l i)) := find_eq hN l hl _
    simp only [dlt hi, dge, Bool.and_self, cond_true, Int.toNat_natCast, vec_len, vec_get _ hi, Option.bind_some, hfd, vec_set _ hi, wrapC (show i < 9223372036854775807 by omega)]
    cases hp : par l i with
    | none =>
      have h0 := par_none h hi hp
      have : ((l.getD i z_Pipe).From == 0) = true := by rw [h0]; rfl
      simp only [this, cond_true]
      rw [hnew _ (by unfold prs; rw [path_none hp]; rfl)]
    | some p =>
      obtain ⟨hpl, hto⟩ := par_from hp
      have hlt := par_lt h hi hp
      have h0 : ((l.getD i z_Pipe).From == 0) = false := by rw [beq_eq_false_iff_ne, ← hto]; have := h.to p hpl; omega
      have g1 : decide (oi (some p) < 0) = false := by rw [decide_eq_false_iff_not]; simp [oi]
      have g2 : (decide (0 ≤ oi (some p)) && decide (oi (some p) < (l.length : Int))) = true := by simp [oi, hpl]
      have g3 : (oi (some p)).toNat = p := rfl
      simp only [h0, cond_false, g1, g2, cond_true, g3, vec_get _ hpl, if_pos hlt]
      rw [hnew _ (by unfold prs; rw [path_some h hi hp, List.foldl_append]; rfl)]
  · simp only [dnlt, cond_false]
    congr 2
    exact vec_congr fun j hj => by rw [if_pos hj]
  · refine (bindT (fun t => (lowL l (fun j => flw l 0 j ds) root (ns.take t), (t : Int))) rfl (lowL l (fun j => flw l 0 j ds) root ns) ns.length (show ns.length < N by omega) (fun t ht => ?_) ?_).trans rfl
    · have hll := low_len l (fun j => flw l 0 j ds) root (ns.take t)
      have htl : (ns.take t).length ≤ t := by simp; omega
      have hb : ∀ y : Int, decide (((lowL l (fun j => flw l 0 j ds) root (ns.take t)).length + [y].length) * 8 ≤ 140737488355328) = true := fun y => by simp only [List.length_singleton, decide_eq_true_eq]; omega
      have hnt := hn _ (getD_mem ns t z_Draw ht)
      obtain ⟨_, k1, k2⟩ := kd_spec hnt
      have h0 : ((ns.getD t z_Draw).Node == 0) = false := by rw [beq_eq_false_iff_ne, ← k2]; have := h.to _ k1; omega
      have g1 : decide (((kd l (ns.getD t z_Draw) : Nat) : Int) < 0) = false := by rw [decide_eq_false_iff_not]; omega
      simp only [dlt ht, dge, Bool.and_self, cond_true, Int.toNat_natCast, h0, cond_false, find_kd hN hl hnt, Option.bind_some, g1, vec_len, dlt k1, vec_get _ k1, hb, wrapC (show t < 9223372036854775807 by omega)]
      rw [low_step _ _ _ _ ht]
      cases decide (prs l (fun j => flw l 0 j ds) root (kd l (ns.getD t z_Draw)) < (ns.getD t z_Draw).Flow)
      · simp
      · rfl
    · simp only [dnlt, cond_false, List.take_length]
end
end Go.Proofs.YtkhkblihdabnoaaGreat

/- Snowmaking: Power and Why are what the reference says; the law SnowmakingChecks in plain words. No condition. -/
namespace Go.Proofs.YtkhkblihdabnoaaGreat
open Go.Cm Go.Proofs
theorem draws_ok {N : Nat} {s : SnowSystem} (hr : RightOk N s) (hl : Link s) (x : Int) : (∀ d, d ∈ Gn.drawsS s.Kinds s.Guns x → DrawOk s.Pipes d) ∧ (∀ d, d ∈ Gn.drawsS s.Kinds s.Guns x → 0 ≤ d.Flow ∧ d.Flow ≤ 10000) ∧ ∀ d, d ∈ Gn.needsS s.Kinds s.Guns → DrawOk s.Pipes d := by
  have key : ∀ g, g ∈ s.Guns → ∀ f, DrawOk s.Pipes (Draw.mk g.Node f) := fun g hg f => by
    obtain ⟨i, hi, rfl⟩ := mem_getD z_Gun hg
    have := (hl i hi).2
    unfold hasNode at this
    unfold DrawOk
    cases hf : fst (fun j => (s.Pipes.getD j z_Pipe).To == (s.Guns.getD i z_Gun).Node) s.Pipes.length with
    | none => rw [hf] at this; cases this
    | some k => exact ⟨k, rfl⟩
  refine ⟨fun d hd => ?_, fun d hd => ?_, fun d hd => ?_⟩
  · unfold Gn.drawsS at hd
    obtain ⟨g, hg, rfl⟩ := List.mem_map.1 hd
    exact key g (List.mem_filter.1 hg).1 _
  · unfold Gn.drawsS at hd
    obtain ⟨g, hg, rfl⟩ := List.mem_map.1 hd
    exact Gn.out_range (Gn.right_zero hr.guns).2.2.1 g.Kind x
  · unfold Gn.needsS at hd
    obtain ⟨g, hg, rfl⟩ := List.mem_map.1 hd
    exact key g (List.mem_filter.1 hg).1 _
section
variable {N : Nat} (hN : 1000 < N)
include hN
theorem power_same {s : SnowSystem} (h : Small s) (hr : RightOk N s) (hl : Link s) (x : Int) : r44_Power N s x = snowmaking_Power N s x := by
  have h1 := h.guns
  have h2 := h.kinds
  have hdl := Gn.draws_len s.Kinds s.Guns x
  have hd := (draws_ok hr hl x).2.1
  have hk := (Gn.right_zero hr.guns).2.2.1
  have hstep : ∀ i, i < (Gn.drawsS s.Kinds s.Guns x).length → IntKind.i64.wrap ((((Gn.drawsS s.Kinds s.Guns x).take i).map fun d : Draw => d.Flow).sum + ((Gn.drawsS s.Kinds s.Guns x).getD i z_Draw).Flow) = (((Gn.drawsS s.Kinds s.Guns x).take (i + 1)).map fun d : Draw => d.Flow).sum := fun i hi => by
    have hb := Pn.sum_bound (fun d : Draw => d.Flow) 10000 ((Gn.drawsS s.Kinds s.Guns x).take (i + 1)) fun d hd' => hd d (List.mem_of_mem_take hd')
    have hbl : ((Gn.drawsS s.Kinds s.Guns x).take (i + 1)).length ≤ 30 := by simp; omega
    have e := Pn.sum_step (fun d : Draw => d.Flow) (Gn.drawsS s.Kinds s.Guns x) z_Draw i hi
    rw [e] at hb ⊢
    exact wrap64 (by omega) (by omega)
  unfold r44_Power snowmaking_Power
  rw [Gn.rdraws_eq hN _ _ _ (by omega) (by omega), Gn.draws_eq hN _ _ _ (by omega) (by omega), Option.bind_some, Option.bind_some]
  obtain ⟨a, b, v, e1, e2⟩ := best_same hN hr.pumps.1 hr.pumps.2 ((Gn.drawsS s.Kinds s.Guns x).map fun d : Draw => d.Flow).sum
  refine Eq.trans (bindT (s0 := ((0 : Int), (0 : Int))) (fun i => ((((Gn.drawsS s.Kinds s.Guns x).take i).map fun d : Draw => d.Flow).sum, (i : Int))) rfl (((Gn.drawsS s.Kinds s.Guns x).map fun d : Draw => d.Flow).sum) (Gn.drawsS s.Kinds s.Guns x).length (show _ < N by omega) (fun i hi => ?_) ?_) (Eq.trans ?_ (Eq.symm (bindT (s0 := ((0 : Int), (0 : Int))) (fun i => ((((Gn.drawsS s.Kinds s.Guns x).take i).map fun d : Draw => d.Flow).sum, (i : Int))) rfl (((Gn.drawsS s.Kinds s.Guns x).map fun d : Draw => d.Flow).sum) (Gn.drawsS s.Kinds s.Guns x).length (show _ < N by omega) (fun i hi => ?_) ?_)))
  · simp only [dlt hi, dge, Bool.and_self, cond_true, Int.toNat_natCast, hstep i hi, wrapC (show i < 9223372036854775807 by omega)]
  · simp only [dnlt, cond_false, List.take_length]
  · rw [e1, e2, Gn.rpower_eq hN _ _ (by omega) (by omega) hk, Gn.power_eq hN _ _ (by omega) (by omega) hk]
    rfl
  · simp only [dlt hi, dge, Bool.and_self, cond_true, Int.toNat_natCast, hstep i hi, wrapC (show i < 9223372036854775807 by omega)]
  · simp only [dnlt, cond_false, List.take_length]
theorem why_same {s : SnowSystem} (h : Small s) (hr : RightOk N s) (hl : Link s) (x : Int) : r44_Why N s x = snowmaking_Why N s x := by
  have h1 := h.guns
  have h2 := h.kinds
  have h3 := h.pipes
  have hdl := Gn.draws_len s.Kinds s.Guns x
  have hnl := Gn.needs_len s.Kinds s.Guns
  obtain ⟨d1, d2, d3⟩ := draws_ok hr hl x
  have hp : PipesOk s.Pipes := pipes_ok (by have := hr.pipeR; rw [iright_eq hN] at this; exact Option.some.inj this)
  unfold r44_Why snowmaking_Why
  rw [power_same hN h hr hl, Gn.rdraws_eq hN _ _ _ (by omega) (by omega), Gn.draws_eq hN _ _ _ (by omega) (by omega), Gn.rneeds_eq hN _ _ (by omega) (by omega), Gn.needs_eq hN _ _ (by omega) (by omega)]
  simp only [Option.bind_some]
  rw [rlow_eq hN hp (by omega) d1 d2 (by omega) _ d3 (by omega), low_eq hN hp (by omega) d1 d2 (by omega) _ d3 (by omega)]
end
theorem t_SnowmakingChecks : AllW (fun y => y = some true) [TI.t_SnowSystem, TI.t_i64] (l44_SnowmakingChecks 2000) := fun (s : SnowSystem) _ (x : Int) _ => by
  show l44_SnowmakingChecks 2000 s x = some true
  have hN : 1000 < 2000 := by omega
  unfold l44_SnowmakingChecks
  rw [alive_ok]
  obtain ⟨b, hb, hS⟩ := small_tot hN s
  simp only [Option.bind_some, Bool.not_true, cond_false, hb]
  cases b with
  | false => rfl
  | true =>
    have h := hS rfl
    obtain ⟨r, hr, hR⟩ := right_spec hN h
    have hr' := hr
    rw [right_same hN h] at hr'
    simp only [hr, hr', Option.bind_some, Bool.not_true, cond_false, bne_self_eq_false]
    cases h0 : (r != 0) with
    | true => rfl
    | false =>
      have h0 : r = 0 := by simpa using h0
      subst h0
      obtain ⟨ho, hl⟩ := right_fwd hN h hr
      obtain ⟨⟨p, e⟩, hp, _⟩ := power_tot hN h x
      obtain ⟨w, hw, _⟩ := why_tot hN h x
      have hp' := hp
      have hw' := hw
      rw [← power_same hN h ho hl] at hp'
      rw [← why_same hN h ho hl] at hw'
      simp only [hp, hp', hw, hw', Option.bind_some, cond_false, beq_self_eq_true, cond_true]
end Go.Proofs.YtkhkblihdabnoaaGreat

