/- The ponds: the stable insertion sort of Go's library, in plain words. No condition. -/
import Derived.Test.YtoniopgegcngpaaPnd3
namespace Go.Proofs.Ytoniopgegcngpaa
open Go.Cm Go.Proofs
/-- the inner loop of the insertion sort, as it is printed -/
def innerB (N : Nat) (rs : List Int) (a0 : Int) : Int × List Int → Option ((Int × List Int) ⊕ List Int) :=
  (fun (p23 : Int × List Int) => (bif decide (p23.fst > a0) then bif decide ((0 : Int) ≤ p23.fst) && decide (p23.fst < (↑(List.length p23.snd) : Int)) then bif decide ((0 : Int) ≤ IntKind.i64.wrap (p23.fst - (1 : Int))) && decide (IntKind.i64.wrap (p23.fst - (1 : Int)) < (↑(List.length p23.snd) : Int)) then bif decide ((0 : Int) ≤ List.getD p23.snd (IntKind.i64.wrap (p23.fst - (1 : Int))).toNat (0 : Int)) && decide (List.getD p23.snd (IntKind.i64.wrap (p23.fst - (1 : Int))).toNat (0 : Int) < (↑(List.length rs) : Int)) then bif decide ((0 : Int) ≤ List.getD p23.snd (Int.toNat p23.fst) (0 : Int)) && decide (List.getD p23.snd (Int.toNat p23.fst) (0 : Int) < (↑(List.length rs) : Int)) then (cmp_Compare_int_ N (List.getD rs (List.getD p23.snd (IntKind.i64.wrap (p23.fst - (1 : Int))).toNat (0 : Int)).toNat (0 : Int)) (List.getD rs (List.getD p23.snd (Int.toNat p23.fst) (0 : Int)).toNat (0 : Int))).bind fun (r24 : Int) => some (decide (r24 < (0 : Int))) else none else none else none else none else some false).bind fun (r25 : Bool) => bif r25 then bif decide ((0 : Int) ≤ IntKind.i64.wrap (p23.fst - (1 : Int))) && decide (IntKind.i64.wrap (p23.fst - (1 : Int)) < (↑(List.length p23.snd) : Int)) then bif decide ((0 : Int) ≤ p23.fst) && decide (p23.fst < (↑(List.length p23.snd) : Int)) then bif decide ((0 : Int) ≤ p23.fst) && decide (p23.fst < (↑(List.length p23.snd) : Int)) then (some (List.set p23.snd (Int.toNat p23.fst) (List.getD p23.snd (IntKind.i64.wrap (p23.fst - (1 : Int))).toNat (0 : Int)))).bind fun (r26 : List Int) => bif decide ((0 : Int) ≤ IntKind.i64.wrap (p23.fst - (1 : Int))) && decide (IntKind.i64.wrap (p23.fst - (1 : Int)) < (↑r26.length : Int)) then (some (r26.set (IntKind.i64.wrap (p23.fst - (1 : Int))).toNat (List.getD p23.snd (Int.toNat p23.fst) (0 : Int)))).bind fun (r27 : List Int) => some (Sum.inl (IntKind.i64.wrap (p23.fst - (1 : Int)), r27)) else none else none else none else none else some (Sum.inr p23.snd))
def idx (n : Nat) : List Int := (List.range n).map fun i : Nat => (i : Int)
theorem idx_len (n : Nat) : (idx n).length = n := by simp [idx]
theorem idx_succ (n : Nat) : idx (n + 1) = idx n ++ [(n : Int)] := by simp [idx, List.range_succ]
theorem idx_get {n i : Nat} (h : i < n) : (idx n).getD i 0 = (i : Int) := by
  simp [idx, List.getD, h]
theorem idx_mem {n : Nat} {v : Int} : v ∈ idx n ↔ 0 ≤ v ∧ v < n := by
  simp only [idx, List.mem_map, List.mem_range]
  constructor
  · rintro ⟨i, h, rfl⟩; omega
  · rintro ⟨h1, h2⟩; exact ⟨v.toNat, by omega, by omega⟩
theorem idx_nodup (n : Nat) : (idx n).Nodup := by
  unfold idx
  rw [List.nodup_iff_pairwise_ne, List.pairwise_map]
  refine List.Pairwise.imp ?_ (List.nodup_iff_pairwise_ne.1 List.nodup_range)
  intro a b h e
  exact h (by omega)
theorem idx_drop {n k : Nat} (h : k < n) : (idx n).drop k = (k : Int) :: (idx n).drop (k + 1) := by
  have hk : k < (idx n).length := by rw [idx_len]; exact h
  rw [List.drop_eq_getElem_cons hk]
  congr 1
  have := idx_get h
  simpa [List.getD, List.getElem?_eq_getElem hk] using this
/-- the rest of an index; which comes first -/
def rat (rs : List Int) (v : Int) : Int := rs.getD v.toNat 0
def ltR (rs : List Int) (v u : Int) : Prop := rat rs u < rat rs v ∨ (rat rs v = rat rs u ∧ v < u)
theorem getD_mid {α : Type} (P : List α) (y : α) (R : List α) (d : α) : (P ++ y :: R).getD P.length d = y := by simp [List.getD]
theorem getD_mid2 {α : Type} (P : List α) (y x : α) (R : List α) (d : α) : (P ++ y :: x :: R).getD (P.length + 1) d = x := by simp [List.getD, List.getElem?_append]
theorem swap_mid {α : Type} : ∀ (P : List α) (y x : α) (R : List α), ((P ++ y :: x :: R).set (P.length + 1) y).set P.length x = P ++ x :: y :: R
  | [], _, _, _ => rfl
  | p :: P, y, x, R => by
    have := swap_mid P y x R
    simp only [List.cons_append, List.length_cons, List.set_cons_succ, this]
def insL (A : List Int) (x : Int) (B : List Int) (j : Nat) : List Int := A.take j ++ x :: (A.drop j ++ B)
theorem cmp_eq {N : Nat} (a b : Int) : (cmp_Compare_int_ N a b).bind (fun r => some (decide (r < (0 : Int)))) = some (decide (a < b)) := by
  unfold cmp_Compare_int_ cmp_isNaN_int_
  have h1 : (a != a) = false := by simp
  have h2 : (b != b) = false := by simp
  simp only [h1, h2, Option.bind_some, cond_false]
  by_cases h : a < b
  · simp [h]
  · by_cases h3 : a > b <;> simp [h, h3]
section
variable {N : Nat} (hN : 1000 < N)
include hN
theorem inner_spec {rs A B : List Int} {x : Int} {n : Nat} (hrs : rs.length = n) (hn : n ≤ 8) (hA : ∀ y, y ∈ A → 0 ≤ y ∧ y < n) (hx : 0 ≤ x ∧ x < n) (hAl : A.length ≤ 8) :
    ∃ j, j ≤ A.length ∧ whileF N (innerB N rs 0) ((A.length : Int), A ++ x :: B) = some (insL A x B j) ∧ (∀ y, y ∈ A.drop j → rat rs y < rat rs x) ∧ (j = 0 ∨ rat rs x ≤ rat rs (A.getD (j - 1) 0)) := by
  suffices h : ∃ r, whileF N (innerB N rs 0) ((A.length : Int), A ++ x :: B) = some r ∧ ∃ j, j ≤ A.length ∧ r = insL A x B j ∧ (∀ y, y ∈ A.drop j → rat rs y < rat rs x) ∧ (j = 0 ∨ rat rs x ≤ rat rs (A.getD (j - 1) 0)) by
    obtain ⟨r, h1, j, h2, h3, h4, h5⟩ := h
    exact ⟨j, h2, by rw [h1, h3], h4, h5⟩
  refine whileF_inv
    (fun m s => ∃ j, j + m = A.length ∧ s = ((j : Int), insL A x B j) ∧ ∀ y, y ∈ A.drop j → rat rs y < rat rs x)
    (fun r => ∃ j, j ≤ A.length ∧ r = insL A x B j ∧ (∀ y, y ∈ A.drop j → rat rs y < rat rs x) ∧ (j = 0 ∨ rat rs x ≤ rat rs (A.getD (j - 1) 0))) A.length
    ⟨A.length, by omega, by simp [insL], fun y hy => by simp at hy⟩ (fun m s hm hI => ?_) (fun s hI => ?_) (by omega)
  · obtain ⟨j, hj, rfl, hd⟩ := hI
    obtain ⟨j', rfl⟩ : ∃ j', j = j' + 1 := ⟨j - 1, by omega⟩
    have hj' : j' < A.length := by omega
    obtain ⟨y, hy⟩ : ∃ y, A.getD j' 0 = y := ⟨_, rfl⟩
    have hyA : y ∈ A := by rw [← hy]; exact getD_mem A j' 0 hj'
    have hyb := hA y hyA
    have hdr : A.drop j' = y :: A.drop (j' + 1) := by
      rw [List.drop_eq_getElem_cons hj', ← hy]
      simp [List.getD, List.getElem?_eq_getElem hj']
    have hdat : insL A x B (j' + 1) = A.take j' ++ y :: x :: (A.drop (j' + 1) ++ B) := by
      unfold insL
      rw [take_getD A j' 0 hj', hy, List.append_assoc]
      rfl
    have hdat2 : insL A x B j' = A.take j' ++ x :: y :: (A.drop (j' + 1) ++ B) := by
      unfold insL
      rw [hdr]
      rfl
    have htl : (A.take j').length = j' := by simp; omega
    have hlen : j' + 1 < (insL A x B (j' + 1)).length := by rw [hdat]; simp; omega
    have g1 : (insL A x B (j' + 1)).getD j' 0 = y := by
      rw [hdat]
      have := getD_mid (A.take j') y (x :: (A.drop (j' + 1) ++ B)) 0
      rwa [htl] at this
    have g2 : (insL A x B (j' + 1)).getD (j' + 1) 0 = x := by
      rw [hdat]
      have := getD_mid2 (A.take j') y x (A.drop (j' + 1) ++ B) 0
      rwa [htl] at this
    have g3 : ((insL A x B (j' + 1)).set (j' + 1) y).set j' x = insL A x B j' := by
      rw [hdat, hdat2]
      have := swap_mid (A.take j') y x (A.drop (j' + 1) ++ B)
      rwa [htl] at this
    have c1 : decide (((j' + 1 : Nat) : Int) > 0) = true := by simp
    have c2 : decide (0 ≤ y) = true := by simp; omega
    have c3 : decide (y < (n : Int)) = true := by simp; omega
    have c4 : decide (0 ≤ x) = true := by simp; omega
    have c5 : decide (x < (n : Int)) = true := by simp; omega
    have hbody : innerB N rs 0 (((j' + 1 : Nat) : Int), insL A x B (j' + 1)) = bif decide (rat rs y < rat rs x) then some (.inl ((j' : Int), insL A x B j')) else some (.inr (insL A x B (j' + 1))) := by
      unfold innerB
      simp only [c1, cond_true, dge, dlt hlen, dlt (show j' < (insL A x B (j' + 1)).length by omega), Bool.and_self, wrapS (show j' < 9223372036854775807 by omega), Int.toNat_natCast, g1, g2, c2, c3, c4, c5, hrs, cmp_eq, Option.bind_some, List.length_set, g3]
      rfl
    rw [hbody]
    by_cases hc : rat rs y < rat rs x
    · left
      refine ⟨_, by simp only [hc, decide_true, cond_true], j', by omega, rfl, fun z hz => ?_⟩
      rw [hdr] at hz
      rcases List.mem_cons.1 hz with rfl | hz
      · exact hc
      · exact hd z hz
    · right
      refine ⟨_, by simp only [hc, decide_false, cond_false], j' + 1, by omega, rfl, hd, .inr ?_⟩
      rw [Nat.add_sub_cancel, hy]
      omega
  · obtain ⟨j, hj, rfl, hd⟩ := hI
    have : j = 0 := by omega
    subst this
    refine ⟨insL A x B 0, ?_, 0, by omega, rfl, hd, .inl rfl⟩
    unfold innerB
    rfl
/-- the outer loop -/
def outerB (N : Nat) (rs : List Int) (m : Nat) : Int × List Int → Option ((Int × List Int) ⊕ List Int) := fun p22 =>
  bif decide (p22.fst < (m : Int)) then (whileF N (innerB N rs 0) p22).bind fun (r28 : List Int) => some (Sum.inl (IntKind.i64.wrap (p22.fst + (1 : Int)), r28)) else some (Sum.inr p22.snd)
def Sorted (rs : List Int) (n : Nat) (o : List Int) : Prop := o.Perm (idx n) ∧ o.Pairwise (ltR rs)
theorem sort_spec {rs : List Int} {n : Nat} (hrs : rs.length = n) (hn : n ≤ 8) : ∃ o, whileF N (outerB N rs n) (1, idx n) = some o ∧ Sorted rs n o := by
  by_cases h0 : n = 0
  · subst h0
    obtain ⟨M, rfl⟩ : ∃ M, N = M + 1 := ⟨N - 1, by omega⟩
    exact ⟨[], rfl, .refl _, .nil⟩
  · refine whileF_inv (fun i s => s.1 = ((i + 1 : Nat) : Int) ∧ ∃ A, s.2 = A ++ (idx n).drop (i + 1) ∧ Sorted rs (i + 1) A) (Sorted rs n) (n - 1) ⟨rfl, [0], ?_, .refl _, by simp⟩ (fun i s hi hI => .inl ?_) (fun s hI => ?_) (by omega)
    · have := idx_drop (n := n) (k := 0) (by omega)
      simpa using this
    · obtain ⟨k, d⟩ := s
      obtain ⟨hk, A, hd, hp, hw⟩ := hI
      simp only at hk hd
      subst hk
      subst hd
      have hAl : A.length = i + 1 := by rw [hp.length_eq, idx_len]
      have hA : ∀ y, y ∈ A → 0 ≤ y ∧ y < ((i + 1 : Nat) : Int) := fun y hy => idx_mem.1 (hp.mem_iff.1 hy)
      obtain ⟨j, hj, h1, h2, h3⟩ := inner_spec hN (rs := rs) (A := A) (B := (idx n).drop (i + 2)) (x := ((i + 1 : Nat) : Int)) hrs hn (fun y hy => by have := hA y hy; omega) (by omega) (by omega)
      rw [hAl] at h1
      refine ⟨(((i + 1 + 1 : Nat) : Int), insL A ((i + 1 : Nat) : Int) ((idx n).drop (i + 2)) j), ?_, rfl, A.take j ++ ((i + 1 : Nat) : Int) :: A.drop j, by simp [insL], ?_, ?_⟩
      · unfold outerB
        rw [idx_drop (show i + 1 < n by omega)]
        have e : decide ((((i + 1 : Nat) : Int), A ++ ((i + 1 : Nat) : Int) :: (idx n).drop (i + 1 + 1)).fst < (n : Int)) = true := by simp only [decide_eq_true_eq]; omega
        simp only [e, cond_true]
        rw [h1, Option.bind_some, wrapC (show i + 1 < 9223372036854775807 by omega)]
      · refine List.perm_middle.trans ?_
        rw [List.take_append_drop, idx_succ (i + 1)]
        exact (List.Perm.cons _ hp).trans (List.perm_append_singleton _ _).symm
      · have hw' := hw
        rw [← List.take_append_drop j A, List.pairwise_append] at hw'
        obtain ⟨w1, w2, w3⟩ := hw'
        rw [List.pairwise_append, List.pairwise_cons]
        refine ⟨w1, ⟨fun y hy => .inl (h2 y hy), w2⟩, fun u hu v hv => ?_⟩
        rcases List.mem_cons.1 hv with rfl | hv
        · -- before the new one
          have hult := hA u (List.mem_of_mem_take hu)
          have hge : rat rs ((i + 1 : Nat) : Int) ≤ rat rs u := by
            rcases h3 with rfl | h3
            · simp at hu
            · by_cases hj0 : j = 0
              · subst hj0; simp at hu
              · obtain ⟨j', rfl⟩ : ∃ j', j = j' + 1 := ⟨j - 1, by omega⟩
                rw [Nat.add_sub_cancel] at h3
                rw [take_getD A j' 0 (by omega)] at hu w1
                rcases List.mem_append.1 hu with hu | hu
                · have := (List.pairwise_append.1 w1).2.2 u hu (A.getD j' 0) (List.mem_singleton.2 rfl)
                  rcases this with h | h <;> omega
                · rw [List.mem_singleton] at hu
                  rw [hu]; exact h3
          by_cases heq : rat rs u = rat rs ((i + 1 : Nat) : Int)
          · exact .inr ⟨heq, hult.2⟩
          · exact .inl (by omega)
        · exact w3 u hu v hv
    · obtain ⟨k, d⟩ := s
      obtain ⟨hk, A, hd, hS⟩ := hI
      simp only at hk hd
      subst hk
      subst hd
      have e1 : n - 1 + 1 = n := by omega
      rw [e1] at hS ⊢
      have e2 : (idx n).drop n = [] := by rw [List.drop_eq_nil_iff, idx_len]; exact Nat.le_refl _
      rw [e2, List.append_nil]
      refine ⟨A, ?_, hS⟩
      unfold outerB
      simp only [dnlt, cond_false]
end
end Go.Proofs.Ytoniopgegcngpaa
