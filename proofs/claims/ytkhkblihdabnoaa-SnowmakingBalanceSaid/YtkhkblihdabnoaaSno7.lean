/- Snowmaking: what Take and Fill of the ponds do (taken out of the texts on ponds, without the references). No condition. -/
import Derived.Test.YtkhkblihdabnoaaSno2
namespace Go.Proofs.Ytkhkblihdabnoaa.Pn
open Go.Cm Go.Proofs
set_option linter.unusedSectionVars false
def fillI (p : Pond) (t : Int) : Int := min (p.Inflow * t / 3600) (p.Most - p.Volume)
theorem fill_i {p : Pond} (h : PondOk p) {t : Int} (h0 : 0 ≤ t) (h1 : t ≤ 86400) : fillW p t = fillI p t := by
  unfold PondOk at h
  have k1 : 0 ≤ p.Inflow * t := Int.mul_nonneg (by omega) h0
  have k2 : p.Inflow * t ≤ 10000000 * 86400 := Int.mul_le_mul (by omega) h1 h0 (by omega)
  unfold fillW fillI
  rw [wrap64 (z := p.Inflow * t) (by omega) (by omega), Int.tdiv_eq_ediv_of_nonneg k1, wrap64 (z := p.Inflow * t / 3600) (by omega) (by omega), wrap64 (by omega) (by omega)]
theorem fillI_bound {p : Pond} (h : PondOk p) {t : Int} (h0 : 0 ≤ t) : 0 ≤ fillI p t ∧ fillI p t ≤ p.Most - p.Volume := by
  unfold PondOk at h
  have k1 : 0 ≤ p.Inflow * t := Int.mul_nonneg (by omega) h0
  have k2 : 0 ≤ p.Inflow * t / 3600 := Int.ediv_nonneg k1 (by omega)
  unfold fillI
  omega
theorem sumW_eq {l : List Pond} (hl : l.length ≤ 8) (h : ∀ p, p ∈ l → PondOk p) {t : Int} (h0 : 0 ≤ t) (h1 : t ≤ 86400) : sumW l t = (l.map fun p => fillI p t).sum := by
  have key : ∀ i, i ≤ l.length → sumW (l.take i) t = ((l.take i).map fun p => fillI p t).sum := by
    intro i
    induction i with
    | zero => intro _; rfl
    | succ i ih =>
      intro hi
      have hp := h _ (getD_mem l i z_Pond hi)
      have hf := fillI_bound hp h0
      have hb := sum_bound (fun p : Pond => fillI p t) 1000000000 (l.take i) (fun p hp' => by
        have h2 := h p (List.mem_of_mem_take hp')
        have h3 := fillI_bound h2 h0
        unfold PondOk at h2
        omega)
      have hlen : (l.take i).length ≤ 8 := by simp; omega
      unfold PondOk at hp
      rw [sumW_step l t i hi, ih (by omega), fill_i (h _ (getD_mem l i z_Pond hi)) h0 h1, sum_step (fun p => fillI p t) l z_Pond i hi, wrap64 (by omega) (by omega)]
  have := key l.length (Nat.le_refl _)
  rwa [List.take_length] at this
theorem fillP_vol {p : Pond} (h : PondOk p) {t : Int} (h0 : 0 ≤ t) (h1 : t ≤ 86400) : (fillP t p).Volume = p.Volume + fillI p t := by
  have hb := fillI_bound h h0
  unfold fillP
  rw [fill_i h h0 h1]
  unfold PondOk at h
  exact wrap64 (by omega) (by omega)
theorem wrapU {z : Int} (h1 : 0 ≤ z) (h2 : z < 18446744073709551616) : IntKind.u64.wrap z = z := by
  show (let m := z % (2 ^ 64 : Int); if false && m ≥ (2 ^ 63 : Int) then m - (2 ^ 64 : Int) else m) = z
  simp only [Bool.false_and, Bool.false_eq_true, if_false]
  omega
theorem shr32 {x : Int} (h : 0 ≤ x) : shrI IntKind.u64 x 32 = x / 4294967296 := by
  show x.fdiv (2 ^ 32) = _
  rw [Int.fdiv_eq_ediv_of_nonneg _ (by decide)]
  rfl
theorem and32 {x : Int} (h1 : 0 ≤ x) (h2 : x < 18446744073709551616) : andI IntKind.u64 x 4294967295 = x % 4294967296 := by
  obtain ⟨n, rfl⟩ : ∃ n : Nat, x = n := ⟨x.toNat, by omega⟩
  show IntKind.u64.wrap ((BitVec.ofInt 64 (n : Int) &&& BitVec.ofInt 64 4294967295).toNat : Int) = _
  have e1 : (BitVec.ofInt 64 (n : Int)).toNat = n := by
    rw [BitVec.toNat_ofInt]
    have : ((n : Int) % ((2 ^ 64 : Nat) : Int)).toNat = n := by
      have : ((2 ^ 64 : Nat) : Int) = 18446744073709551616 := by decide
      rw [this]
      omega
    exact this
  have e2 : (BitVec.ofInt 64 4294967295).toNat = 2 ^ 32 - 1 := by decide
  rw [BitVec.toNat_and, e1, e2, Nat.and_two_pow_sub_one_eq_mod, wrapU (by omega) (by omega)]
  omega
theorem mul_small {x y : Int} (hx0 : 0 ≤ x) (hx1 : x < 18446744073709551616) (hy0 : 0 ≤ y) (hy1 : y < 18446744073709551616) (h : x * y < 18446744073709551616) {N : Nat} : bits_Mul64 N x y = some (0, x * y) := by
  unfold bits_Mul64
  rw [shr32 hx0, shr32 hy0, and32 hx0 hx1, and32 hy0 hy1]
  obtain ⟨x1, hx1'⟩ : ∃ z, x / 4294967296 = z := ⟨_, rfl⟩
  obtain ⟨x0, hx0'⟩ : ∃ z, x % 4294967296 = z := ⟨_, rfl⟩
  obtain ⟨y1, hy1'⟩ : ∃ z, y / 4294967296 = z := ⟨_, rfl⟩
  obtain ⟨y0, hy0'⟩ : ∃ z, y % 4294967296 = z := ⟨_, rfl⟩
  rw [hx1', hx0', hy1', hy0']
  have bx1 : 0 ≤ x1 ∧ x1 ≤ 4294967295 := by omega
  have bx0 : 0 ≤ x0 ∧ x0 ≤ 4294967295 := by omega
  have by1 : 0 ≤ y1 ∧ y1 ≤ 4294967295 := by omega
  have by0 : 0 ≤ y0 ∧ y0 ≤ 4294967295 := by omega
  have key : ∀ {u v : Int}, (0 ≤ u ∧ u ≤ 4294967295) → (0 ≤ v ∧ v ≤ 4294967295) → 0 ≤ u * v ∧ u * v ≤ 18446744065119617025 := fun hu hv =>
    ⟨Int.mul_nonneg hu.1 hv.1, Int.le_trans (Int.mul_le_mul hu.2 hv.2 hv.1 (by omega)) (by decide)⟩
  have ha := key bx0 by0
  have hb := key bx0 by1
  have hc := key bx1 by0
  have hd := key bx1 by1
  have hxy : x * y = (x1 * y1) * 18446744073709551616 + (x0 * y1 + x1 * y0) * 4294967296 + x0 * y0 := by
    have e1 : x = 4294967296 * x1 + x0 := by omega
    have e2 : y = 4294967296 * y1 + y0 := by omega
    have m1 : (4294967296 * x1) * (4294967296 * y1) = 18446744073709551616 * (x1 * y1) := by
      rw [Int.mul_assoc, Int.mul_left_comm x1 4294967296 y1, ← Int.mul_assoc]
      rfl
    have m2 : (4294967296 * x1) * y0 = 4294967296 * (x1 * y0) := Int.mul_assoc ..
    have m3 : x0 * (4294967296 * y1) = 4294967296 * (x0 * y1) := Int.mul_left_comm ..
    rw [e1, e2, Int.add_mul, Int.mul_add, Int.mul_add, m1, m2, m3]
    omega
  have hnn : 0 ≤ x * y := Int.mul_nonneg hx0 hy0
  rw [hxy] at h hnn
  rw [hxy]
  generalize x0 * y0 = a at *
  generalize x0 * y1 = b at *
  generalize x1 * y0 = c at *
  generalize x1 * y1 = d at *
  have w1 : IntKind.u64.wrap a = a := wrapU (by omega) (by omega)
  have w2 : IntKind.u64.wrap b = b := wrapU (by omega) (by omega)
  have w3 : IntKind.u64.wrap c = c := wrapU (by omega) (by omega)
  have w4 : IntKind.u64.wrap d = d := wrapU (by omega) (by omega)
  rw [w1, w2, w3, w4, shr32 (x := a) (by omega)]
  have w5 : IntKind.u64.wrap (c + a / 4294967296) = c + a / 4294967296 := wrapU (by omega) (by omega)
  rw [w5, shr32 (x := c + a / 4294967296) (by omega), and32 (by omega) (by omega)]
  have w6 : IntKind.u64.wrap ((c + a / 4294967296) % 4294967296 + b) = (c + a / 4294967296) % 4294967296 + b := wrapU (by omega) (by omega)
  rw [w6, shr32 (x := (c + a / 4294967296) % 4294967296 + b) (by omega)]
  have w7 : IntKind.u64.wrap (d + (c + a / 4294967296) / 4294967296) = d + (c + a / 4294967296) / 4294967296 := wrapU (by omega) (by omega)
  rw [w7]
  have w8 : d + (c + a / 4294967296) / 4294967296 + ((c + a / 4294967296) % 4294967296 + b) / 4294967296 = 0 := by omega
  rw [w8, wrapU (z := 0) (by omega) (by omega), wrapU (z := d * 18446744073709551616 + (b + c) * 4294967296 + a) hnn h]
theorem exact_eq {N : Nat} {a w s : Int} (ha : 0 ≤ a) (ha' : a ≤ 1099511627776) (hw : 0 ≤ w) (hw' : w ≤ 1000000000) (hs : 0 < s) (hs' : s ≤ 64000000000) (h : a * w < 9223372036854775808) : split_exact N a w s = some (a * w / s, a * w % s) := by
  unfold split_exact
  have hnn : 0 ≤ a * w := Int.mul_nonneg ha hw
  rw [wrapU (z := a) ha (by omega), wrapU (z := w) hw (by omega), wrapU (z := s) (by omega) (by omega), mul_small ha (by omega) hw (by omega) (by omega), Option.bind_some]
  unfold bits_Div64
  have e1 : (s == 0) = false := by rw [beq_eq_false_iff_ne]; omega
  have e2 : decide (s ≤ 0) = false := by rw [decide_eq_false_iff_not]; omega
  have e3 : (s != 0) = true := by rw [bne_iff_ne]; omega
  have hq : 0 ≤ a * w / s := Int.ediv_nonneg hnn (by omega)
  have hq2 : a * w / s ≤ a * w := Int.ediv_le_self _ hnn
  have hm := Int.emod_nonneg (a * w) (show s ≠ 0 by omega)
  have hm2 := Int.emod_lt_of_pos (a * w) hs
  simp only [e1, e2, e3, cond_false, cond_true, Option.bind_some, beq_self_eq_true, Int.tdiv_eq_ediv_of_nonneg hnn, Int.tmod_eq_emod_of_nonneg hnn]
  rw [wrapU (z := a * w / s) hq (by omega), wrap64 (z := a * w / s) (by omega) (by omega), wrap64 (z := a * w % s) (by omega) (by omega)]
def innerB (N : Nat) (rs : List Int) (a0 : Int) : Int × List Int → Option ((Int × List Int) ⊕ List Int) :=
  (fun (p23 : Int × List Int) => (bif decide (p23.fst > a0) then bif decide ((0 : Int) ≤ p23.fst) && decide (p23.fst < (↑(List.length p23.snd) : Int)) then bif decide ((0 : Int) ≤ IntKind.i64.wrap (p23.fst - (1 : Int))) && decide (IntKind.i64.wrap (p23.fst - (1 : Int)) < (↑(List.length p23.snd) : Int)) then bif decide ((0 : Int) ≤ List.getD p23.snd (IntKind.i64.wrap (p23.fst - (1 : Int))).toNat (0 : Int)) && decide (List.getD p23.snd (IntKind.i64.wrap (p23.fst - (1 : Int))).toNat (0 : Int) < (↑(List.length rs) : Int)) then bif decide ((0 : Int) ≤ List.getD p23.snd (Int.toNat p23.fst) (0 : Int)) && decide (List.getD p23.snd (Int.toNat p23.fst) (0 : Int) < (↑(List.length rs) : Int)) then (cmp_Compare_int_ N (List.getD rs (List.getD p23.snd (IntKind.i64.wrap (p23.fst - (1 : Int))).toNat (0 : Int)).toNat (0 : Int)) (List.getD rs (List.getD p23.snd (Int.toNat p23.fst) (0 : Int)).toNat (0 : Int))).bind fun (r24 : Int) => some (decide (r24 < (0 : Int))) else none else none else none else none else some false).bind fun (r25 : Bool) => bif r25 then bif decide ((0 : Int) ≤ IntKind.i64.wrap (p23.fst - (1 : Int))) && decide (IntKind.i64.wrap (p23.fst - (1 : Int)) < (↑(List.length p23.snd) : Int)) then bif decide ((0 : Int) ≤ p23.fst) && decide (p23.fst < (↑(List.length p23.snd) : Int)) then bif decide ((0 : Int) ≤ p23.fst) && decide (p23.fst < (↑(List.length p23.snd) : Int)) then (some (List.set p23.snd (Int.toNat p23.fst) (List.getD p23.snd (IntKind.i64.wrap (p23.fst - (1 : Int))).toNat (0 : Int)))).bind fun (r26 : List Int) => bif decide ((0 : Int) ≤ IntKind.i64.wrap (p23.fst - (1 : Int))) && decide (IntKind.i64.wrap (p23.fst - (1 : Int)) < (↑r26.length : Int)) then (some (r26.set (IntKind.i64.wrap (p23.fst - (1 : Int))).toNat (List.getD p23.snd (Int.toNat p23.fst) (0 : Int)))).bind fun (r27 : List Int) => some (Sum.inl (IntKind.i64.wrap (p23.fst - (1 : Int)), r27)) else none else none else none else none else some (Sum.inr p23.snd))
def idx (n : Nat) : List Int := (List.range n).map fun i : Nat => (i : Int)
theorem idx_len (n : Nat) : (idx n).length = n := by simp [idx]
theorem idx_succ (n : Nat) : idx (n + 1) = idx n ++ [(n : Int)] := by simp [idx, List.range_succ]
theorem idx_get {n i : Nat} (h : i < n) : (idx n).getD i 0 = (i : Int) := by
  simp [idx, List.getD, h]
theorem idx_mem {n : Nat} {v : Int} : v ∈ idx n ↔ 0 ≤ v ∧ v < n := by
  simp only [idx, List.mem_map, List.mem_range]
  constructor
  · rintro ⟨i, h, rfl⟩; omega
  · rintro ⟨h1, h2⟩; exact ⟨v.toNat, by omega, by omega⟩
theorem idx_nodup (n : Nat) : (idx n).Nodup := by
  unfold idx
  rw [List.nodup_iff_pairwise_ne, List.pairwise_map]
  refine List.Pairwise.imp ?_ (List.nodup_iff_pairwise_ne.1 List.nodup_range)
  intro a b h e
  exact h (by omega)
theorem idx_drop {n k : Nat} (h : k < n) : (idx n).drop k = (k : Int) :: (idx n).drop (k + 1) := by
  have hk : k < (idx n).length := by rw [idx_len]; exact h
  rw [List.drop_eq_getElem_cons hk]
  congr 1
  have := idx_get h
  simpa [List.getD, List.getElem?_eq_getElem hk] using this
def rat (rs : List Int) (v : Int) : Int := rs.getD v.toNat 0
def ltR (rs : List Int) (v u : Int) : Prop := rat rs u < rat rs v ∨ (rat rs v = rat rs u ∧ v < u)
theorem getD_mid {α : Type} (P : List α) (y : α) (R : List α) (d : α) : (P ++ y :: R).getD P.length d = y := by simp [List.getD]
theorem getD_mid2 {α : Type} (P : List α) (y x : α) (R : List α) (d : α) : (P ++ y :: x :: R).getD (P.length + 1) d = x := by simp [List.getD, List.getElem?_append]
theorem swap_mid {α : Type} : ∀ (P : List α) (y x : α) (R : List α), ((P ++ y :: x :: R).set (P.length + 1) y).set P.length x = P ++ x :: y :: R
  | [], _, _, _ => rfl
  | p :: P, y, x, R => by
    have := swap_mid P y x R
    simp only [List.cons_append, List.length_cons, List.set_cons_succ, this]
def insL (A : List Int) (x : Int) (B : List Int) (j : Nat) : List Int := A.take j ++ x :: (A.drop j ++ B)
theorem cmp_eq {N : Nat} (a b : Int) : (cmp_Compare_int_ N a b).bind (fun r => some (decide (r < (0 : Int)))) = some (decide (a < b)) := by
  unfold cmp_Compare_int_ cmp_isNaN_int_
  have h1 : (a != a) = false := by simp
  have h2 : (b != b) = false := by simp
  simp only [h1, h2, Option.bind_some, cond_false]
  by_cases h : a < b
  · simp [h]
  · by_cases h3 : a > b <;> simp [h, h3]
section
variable {N : Nat} (hN : 1000 < N)
include hN
theorem inner_spec {rs A B : List Int} {x : Int} {n : Nat} (hrs : rs.length = n) (hn : n ≤ 8) (hA : ∀ y, y ∈ A → 0 ≤ y ∧ y < n) (hx : 0 ≤ x ∧ x < n) (hAl : A.length ≤ 8) :
    ∃ j, j ≤ A.length ∧ whileF N (innerB N rs 0) ((A.length : Int), A ++ x :: B) = some (insL A x B j) ∧ (∀ y, y ∈ A.drop j → rat rs y < rat rs x) ∧ (j = 0 ∨ rat rs x ≤ rat rs (A.getD (j - 1) 0)) := by
  suffices h : ∃ r, whileF N (innerB N rs 0) ((A.length : Int), A ++ x :: B) = some r ∧ ∃ j, j ≤ A.length ∧ r = insL A x B j ∧ (∀ y, y ∈ A.drop j → rat rs y < rat rs x) ∧ (j = 0 ∨ rat rs x ≤ rat rs (A.getD (j - 1) 0)) by
    obtain ⟨r, h1, j, h2, h3, h4, h5⟩ := h
    exact ⟨j, h2, by rw [h1, h3], h4, h5⟩
  refine whileF_inv
    (fun m s => ∃ j, j + m = A.length ∧ s = ((j : Int), insL A x B j) ∧ ∀ y, y ∈ A.drop j → rat rs y < rat rs x)
    (fun r => ∃ j, j ≤ A.length ∧ r = insL A x B j ∧ (∀ y, y ∈ A.drop j → rat rs y < rat rs x) ∧ (j = 0 ∨ rat rs x ≤ rat rs (A.getD (j - 1) 0))) A.length
    ⟨A.length, by omega, by simp [insL], fun y hy => by simp at hy⟩ (fun m s hm hI => ?_) (fun s hI => ?_) (by omega)
  · obtain ⟨j, hj, rfl, hd⟩ := hI
    obtain ⟨j', rfl⟩ : ∃ j', j = j' + 1 := ⟨j - 1, by omega⟩
    have hj' : j' < A.length := by omega
    obtain ⟨y, hy⟩ : ∃ y, A.getD j' 0 = y := ⟨_, rfl⟩
    have hyA : y ∈ A := by rw [← hy]; exact getD_mem A j' 0 hj'
    have hyb := hA y hyA
    have hdr : A.drop j' = y :: A.drop (j' + 1) := by
      rw [List.drop_eq_getElem_cons hj', ← hy]
      simp [List.getD, List.getElem?_eq_getElem hj']
    have hdat : insL A x B (j' + 1) = A.take j' ++ y :: x :: (A.drop (j' + 1) ++ B) := by
      unfold insL
      rw [take_getD A j' 0 hj', hy, List.append_assoc]
      rfl
    have hdat2 : insL A x B j' = A.take j' ++ x :: y :: (A.drop (j' + 1) ++ B) := by
      unfold insL
      rw [hdr]
      rfl
    have htl : (A.take j').length = j' := by simp; omega
    have hlen : j' + 1 < (insL A x B (j' + 1)).length := by rw [hdat]; simp; omega
    have g1 : (insL A x B (j' + 1)).getD j' 0 = y := by
      rw [hdat]
      have := getD_mid (A.take j') y (x :: (A.drop (j' + 1) ++ B)) 0
      rwa [htl] at this
    have g2 : (insL A x B (j' + 1)).getD (j' + 1) 0 = x := by
      rw [hdat]
      have := getD_mid2 (A.take j') y x (A.drop (j' + 1) ++ B) 0
      rwa [htl] at this
    have g3 : ((insL A x B (j' + 1)).set (j' + 1) y).set j' x = insL A x B j' := by
      rw [hdat, hdat2]
      have := swap_mid (A.take j') y x (A.drop (j' + 1) ++ B)
      rwa [htl] at this
    have c1 : decide (((j' + 1 : Nat) : Int) > 0) = true := by simp
    have c2 : decide (0 ≤ y) = true := by simp; omega
    have c3 : decide (y < (n : Int)) = true := by simp; omega
    have c4 : decide (0 ≤ x) = true := by simp; omega
    have c5 : decide (x < (n : Int)) = true := by simp; omega
    have hbody : innerB N rs 0 (((j' + 1 : Nat) : Int), insL A x B (j' + 1)) = bif decide (rat rs y < rat rs x) then some (.inl ((j' : Int), insL A x B j')) else some (.inr (insL A x B (j' + 1))) := by
      unfold innerB
      simp only [c1, cond_true, dge, dlt hlen, dlt (show j' < (insL A x B (j' + 1)).length by omega), Bool.and_self, wrapS (show j' < 9223372036854775807 by omega), Int.toNat_natCast, g1, g2, c2, c3, c4, c5, hrs, cmp_eq, Option.bind_some, List.length_set, g3]
      rfl
    rw [hbody]
    by_cases hc : rat rs y < rat rs x
    · left
      refine ⟨_, by simp only [hc, decide_true, cond_true], j', by omega, rfl, fun z hz => ?_⟩
      rw [hdr] at hz
      rcases List.mem_cons.1 hz with rfl | hz
      · exact hc
      · exact hd z hz
    · right
      refine ⟨_, by simp only [hc, decide_false, cond_false], j' + 1, by omega, rfl, hd, .inr ?_⟩
      rw [Nat.add_sub_cancel, hy]
      omega
  · obtain ⟨j, hj, rfl, hd⟩ := hI
    have : j = 0 := by omega
    subst this
    refine ⟨insL A x B 0, ?_, 0, by omega, rfl, hd, .inl rfl⟩
    unfold innerB
    rfl
def outerB (N : Nat) (rs : List Int) (m : Nat) : Int × List Int → Option ((Int × List Int) ⊕ List Int) := fun p22 =>
  bif decide (p22.fst < (m : Int)) then (whileF N (innerB N rs 0) p22).bind fun (r28 : List Int) => some (Sum.inl (IntKind.i64.wrap (p22.fst + (1 : Int)), r28)) else some (Sum.inr p22.snd)
def Sorted (rs : List Int) (n : Nat) (o : List Int) : Prop := o.Perm (idx n) ∧ o.Pairwise (ltR rs)
theorem sort_spec {rs : List Int} {n : Nat} (hrs : rs.length = n) (hn : n ≤ 8) : ∃ o, whileF N (outerB N rs n) (1, idx n) = some o ∧ Sorted rs n o := by
  by_cases h0 : n = 0
  · subst h0
    obtain ⟨M, rfl⟩ : ∃ M, N = M + 1 := ⟨N - 1, by omega⟩
    exact ⟨[], rfl, .refl _, .nil⟩
  · refine whileF_inv (fun i s => s.1 = ((i + 1 : Nat) : Int) ∧ ∃ A, s.2 = A ++ (idx n).drop (i + 1) ∧ Sorted rs (i + 1) A) (Sorted rs n) (n - 1) ⟨rfl, [0], ?_, .refl _, by simp⟩ (fun i s hi hI => .inl ?_) (fun s hI => ?_) (by omega)
    · have := idx_drop (n := n) (k := 0) (by omega)
      simpa using this
    · obtain ⟨k, d⟩ := s
      obtain ⟨hk, A, hd, hp, hw⟩ := hI
      simp only at hk hd
      subst hk
      subst hd
      have hAl : A.length = i + 1 := by rw [hp.length_eq, idx_len]
      have hA : ∀ y, y ∈ A → 0 ≤ y ∧ y < ((i + 1 : Nat) : Int) := fun y hy => idx_mem.1 (hp.mem_iff.1 hy)
      obtain ⟨j, hj, h1, h2, h3⟩ := inner_spec hN (rs := rs) (A := A) (B := (idx n).drop (i + 2)) (x := ((i + 1 : Nat) : Int)) hrs hn (fun y hy => by have := hA y hy; omega) (by omega) (by omega)
      rw [hAl] at h1
      refine ⟨(((i + 1 + 1 : Nat) : Int), insL A ((i + 1 : Nat) : Int) ((idx n).drop (i + 2)) j), ?_, rfl, A.take j ++ ((i + 1 : Nat) : Int) :: A.drop j, by simp [insL], ?_, ?_⟩
      · unfold outerB
        rw [idx_drop (show i + 1 < n by omega)]
        have e : decide ((((i + 1 : Nat) : Int), A ++ ((i + 1 : Nat) : Int) :: (idx n).drop (i + 1 + 1)).fst < (n : Int)) = true := by simp only [decide_eq_true_eq]; omega
        simp only [e, cond_true]
        rw [h1, Option.bind_some, wrapC (show i + 1 < 9223372036854775807 by omega)]
      · refine List.perm_middle.trans ?_
        rw [List.take_append_drop, idx_succ (i + 1)]
        exact (List.Perm.cons _ hp).trans (List.perm_append_singleton _ _).symm
      · have hw' := hw
        rw [← List.take_append_drop j A, List.pairwise_append] at hw'
        obtain ⟨w1, w2, w3⟩ := hw'
        rw [List.pairwise_append, List.pairwise_cons]
        refine ⟨w1, ⟨fun y hy => .inl (h2 y hy), w2⟩, fun u hu v hv => ?_⟩
        rcases List.mem_cons.1 hv with rfl | hv
        · -- before the new one
          have hult := hA u (List.mem_of_mem_take hu)
          have hge : rat rs ((i + 1 : Nat) : Int) ≤ rat rs u := by
            rcases h3 with rfl | h3
            · simp at hu
            · by_cases hj0 : j = 0
              · subst hj0; simp at hu
              · obtain ⟨j', rfl⟩ : ∃ j', j = j' + 1 := ⟨j - 1, by omega⟩
                rw [Nat.add_sub_cancel] at h3
                rw [take_getD A j' 0 (by omega)] at hu w1
                rcases List.mem_append.1 hu with hu | hu
                · have := (List.pairwise_append.1 w1).2.2 u hu (A.getD j' 0) (List.mem_singleton.2 rfl)
                  rcases this with h | h <;> omega
                · rw [List.mem_singleton] at hu
                  rw [hu]; exact h3
          by_cases heq : rat rs u = rat rs ((i + 1 : Nat) : Int)
          · exact .inr ⟨heq, hult.2⟩
          · exact .inl (by omega)
        · exact w3 u hu v hv
    · obtain ⟨k, d⟩ := s
      obtain ⟨hk, A, hd, hS⟩ := hI
      simp only at hk hd
      subst hk
      subst hd
      have e1 : n - 1 + 1 = n := by omega
      rw [e1] at hS ⊢
      have e2 : (idx n).drop n = [] := by rw [List.drop_eq_nil_iff, idx_len]; exact Nat.le_refl _
      rw [e2, List.append_nil]
      refine ⟨A, ?_, hS⟩
      unfold outerB
      simp only [dnlt, cond_false]
end
theorem sum_set : ∀ (l : List Int) (i : Nat) (x : Int), i < l.length → (l.set i x).sum = l.sum - l.getD i 0 + x
  | [], _, _, h => by simp at h
  | y :: l, 0, x, _ => by simp; omega
  | y :: l, i + 1, x, h => by
    have := sum_set l i x (by simpa using h)
    simp only [List.set_cons_succ, List.sum_cons, this, List.getD_cons_succ]
    omega
def inc1 (ps : List Int) (v : Int) : List Int := ps.set v.toNat (IntKind.i64.wrap (ps.getD v.toNat 0 + 1))
def incs (q : List Int) (T : List Int) : List Int := T.foldl inc1 q
theorem incs_step (q T : List Int) (k : Nat) (hk : k < T.length) : incs q (T.take (k + 1)) = inc1 (incs q (T.take k)) (T.getD k 0) := by
  unfold incs
  rw [take_getD T k 0 hk, List.foldl_append]
  rfl
theorem incs_len (q T : List Int) : (incs q T).length = q.length := by
  unfold incs
  induction T generalizing q with
  | nil => rfl
  | cons v T ih => rw [List.foldl_cons, ih]; simp [inc1]
theorem mem_set {α : Type} {l : List α} {i : Nat} {x y : α} (h : y ∈ l.set i x) : y = x ∨ y ∈ l := by
  rcases List.mem_or_eq_of_mem_set h with h | h
  · exact .inr h
  · exact .inl h
theorem incs_spec : ∀ (T q : List Int) (B : Int), (∀ x, x ∈ q → 0 ≤ x ∧ x ≤ B) → (∀ v, v ∈ T → 0 ≤ v ∧ v < q.length) → 0 ≤ B → B + T.length ≤ 4611686018427387904 → (incs q T).sum = q.sum + T.length ∧ ∀ x, x ∈ incs q T → 0 ≤ x ∧ x ≤ B + T.length
  | [], q, B, hq, _, _, _ => ⟨by simp [incs], fun x hx => by simpa using hq x hx⟩
  | v :: T, q, B, hq, hT, hB, hlim => by
    have hv := hT v (List.mem_cons_self ..)
    have hvl : v.toNat < q.length := by omega
    have hqv := hq _ (getD_mem q v.toNat 0 hvl)
    simp only [List.length_cons] at hlim ⊢
    have hw : IntKind.i64.wrap (q.getD v.toNat 0 + 1) = q.getD v.toNat 0 + 1 := wrap64 (by omega) (by omega)
    have hs : inc1 q v = q.set v.toNat (q.getD v.toNat 0 + 1) := by unfold inc1; rw [hw]
    obtain ⟨h1, h2⟩ := incs_spec T (inc1 q v) (B + 1) (fun x hx => by
      rw [hs] at hx
      rcases mem_set hx with rfl | hx
      · omega
      · have := hq x hx; omega) (fun u hu => by have := hT u (List.mem_cons_of_mem _ hu); simp only [inc1, List.length_set]; exact this) (by omega) (by omega)
    have e : incs q (v :: T) = incs (inc1 q v) T := rfl
    rw [e]
    refine ⟨?_, fun x hx => by have := h2 x hx; omega⟩
    rw [h1, hs, sum_set _ _ _ hvl]
    omega
theorem incs_get : ∀ (T q : List Int) (B : Int), (∀ x, x ∈ q → 0 ≤ x ∧ x ≤ B) → (∀ v, v ∈ T → 0 ≤ v ∧ v < q.length) → 0 ≤ B → B + T.length ≤ 4611686018427387904 → T.Nodup → ∀ i : Nat, i < q.length → (incs q T).getD i 0 = q.getD i 0 + bif T.contains (i : Int) then 1 else 0
  | [], q, B, _, _, _, _, _, i, _ => by simp [incs]
  | v :: T, q, B, hq, hT, hB, hlim, hnd, i, hi => by
    have hv := hT v (List.mem_cons_self ..)
    have hvl : v.toNat < q.length := by omega
    have hqv := hq _ (getD_mem q v.toNat 0 hvl)
    simp only [List.length_cons] at hlim
    have hw : IntKind.i64.wrap (q.getD v.toNat 0 + 1) = q.getD v.toNat 0 + 1 := wrap64 (by omega) (by omega)
    have hs : inc1 q v = q.set v.toNat (q.getD v.toNat 0 + 1) := by unfold inc1; rw [hw]
    rw [List.nodup_cons] at hnd
    have ih := incs_get T (inc1 q v) (B + 1) (fun x hx => by
      rw [hs] at hx
      rcases mem_set hx with rfl | hx
      · omega
      · have := hq x hx; omega) (fun u hu => by have := hT u (List.mem_cons_of_mem _ hu); simp only [inc1, List.length_set]; exact this) (by omega) (by omega) hnd.2 i (by simp only [inc1, List.length_set]; exact hi)
    have e : incs q (v :: T) = incs (inc1 q v) T := rfl
    rw [e, ih, hs, getD_set _ _ _ _ _ hvl]
    by_cases hiv : v.toNat = i
    · rw [if_pos hiv]
      have h1 : (v :: T).contains (i : Int) = true := by simp; omega
      have h2 : T.contains (i : Int) = false := by
        rw [List.contains_eq_mem, decide_eq_false_iff_not]
        intro h
        have : (i : Int) = v := by omega
        rw [this] at h
        exact hnd.1 h
      rw [h1, h2, cond_true, cond_false, hiv]
      omega
    · rw [if_neg hiv]
      have : (v :: T).contains (i : Int) = T.contains (i : Int) := by
        rw [List.contains_cons]
        have : ((i : Int) == v) = false := by rw [beq_eq_false_iff_ne]; omega
        rw [this, Bool.false_or]
      rw [this]
def qF (a S w : Int) : Int := a * w / S
def rF (a S w : Int) : Int := a * w % S
structure Good (a : Int) (ws : List Int) : Prop where
  len : ws.length ≤ 8
  wt : ∀ w, w ∈ ws → 0 ≤ w ∧ w ≤ 1000000000
  pos : 0 < a
  le : a ≤ ws.sum
theorem sum_ge (l : List Int) (h : ∀ w, w ∈ l → 0 ≤ w) : 0 ≤ l.sum ∧ ∀ w, w ∈ l → w ≤ l.sum := by
  induction l with
  | nil => exact ⟨by simp, fun w hw => by simp at hw⟩
  | cons y l ih =>
    have h1 := h y (List.mem_cons_self ..)
    obtain ⟨h2, h3⟩ := ih fun w hw => h w (List.mem_cons_of_mem _ hw)
    refine ⟨by simp only [List.sum_cons]; omega, fun w hw => ?_⟩
    simp only [List.sum_cons]
    rcases List.mem_cons.1 hw with rfl | hw
    · omega
    · have := h3 w hw; omega
section
variable {a : Int} {ws : List Int} (g : Good a ws)
include g
theorem Good.sum : ws.sum ≤ 8000000000 ∧ 0 < ws.sum ∧ a ≤ 8000000000 ∧ ∀ w, w ∈ ws → w ≤ ws.sum := by
  have h1 := sum_bound (fun w : Int => w) 1000000000 ws g.wt
  have h2 := g.len
  have h3 := g.pos
  have h4 := g.le
  simp only [List.map_id'] at h1
  exact ⟨by omega, by omega, by omega, (sum_ge ws fun w hw => (g.wt w hw).1).2⟩
theorem Good.q {w : Int} (hw : w ∈ ws) : 0 ≤ qF a ws.sum w ∧ qF a ws.sum w ≤ a ∧ 0 ≤ rF a ws.sum w ∧ rF a ws.sum w < ws.sum ∧ a * w < 9223372036854775808 := by
  obtain ⟨h1, h2, h3, h4⟩ := g.sum
  have hb := g.wt w hw
  have hp := g.pos
  have hm : 0 ≤ a * w := Int.mul_nonneg (by omega) hb.1
  have hm2 : a * w ≤ a * ws.sum := Int.mul_le_mul_of_nonneg_left (h4 w hw) (by omega)
  have hm3 : a * w ≤ 8000000000 * 1000000000 := Int.mul_le_mul h3 hb.2 hb.1 (by omega)
  refine ⟨Int.ediv_nonneg hm (by omega), ?_, Int.emod_nonneg _ (by omega), Int.emod_lt_of_pos _ h2, by omega⟩
  have := Int.ediv_le_ediv h2 hm2
  rwa [Int.mul_ediv_cancel _ (show ws.sum ≠ 0 by omega)] at this
omit g in
theorem parts_sum (S : Int) (l : List Int) : a * l.sum = S * (l.map (qF a S)).sum + (l.map (rF a S)).sum := by
  induction l with
  | nil => simp
  | cons w l ih =>
    have e := Int.mul_ediv_add_emod (a * w) S
    simp only [List.map_cons, List.sum_cons, Int.mul_add, ih, qF, rF]
    omega
theorem Good.left : 0 ≤ a - (ws.map (qF a ws.sum)).sum ∧ a - (ws.map (qF a ws.sum)).sum < ws.length ∧ ws.sum * (a - (ws.map (qF a ws.sum)).sum) = (ws.map (rF a ws.sum)).sum := by
  obtain ⟨h1, h2, h3, h4⟩ := g.sum
  have hp := parts_sum (a := a) ws.sum ws
  have hr := sum_bound (rF a ws.sum) (ws.sum - 1) ws (fun w hw => by have := g.q hw; omega)
  have hn : 0 < ws.length := by
    cases ws with
    | nil => simp at h2
    | cons => simp
  generalize hQ : (ws.map (qF a ws.sum)).sum = Q at *
  generalize hR : (ws.map (rF a ws.sum)).sum = R at *
  have e1 : ws.sum * (a - Q) = R := by rw [Int.mul_sub, Int.mul_comm ws.sum a]; omega
  have e2 : (ws.sum - 1) * (ws.length : Int) = ws.sum * ws.length - ws.length := by rw [Int.sub_mul, Int.one_mul]
  refine ⟨?_, ?_, e1⟩
  · apply Int.not_lt.1
    intro hlt
    have : ws.sum * (a - Q) ≤ ws.sum * (-1) := Int.mul_le_mul_of_nonneg_left (by omega) (by omega)
    omega
  · apply Int.not_le.1
    intro hle
    have : ws.sum * (ws.length : Int) ≤ ws.sum * (a - Q) := Int.mul_le_mul_of_nonneg_left hle (by omega)
    omega
end
theorem getD_q (a S : Int) (ws : List Int) (i : Nat) (hi : i < ws.length) (f : Int → Int) : (ws.map f).getD i 0 = f (ws.getD i 0) := getD_map f ws i 0 0 hi
section
variable {N : Nat} (hN : 1000 < N)
include hN
theorem check_eq {a : Int} {ws : List Int} (g : Good a ws) : split_check N a ws = some (ws.sum, 0) := by
  obtain ⟨h1, h2, h3, h4⟩ := g.sum
  have hl := g.len
  have hp := g.pos
  unfold split_check
  have c1 : decide ((ws.length : Int) > 64) = false := by rw [decide_eq_false_iff_not]; omega
  have c2 : decide (a < 0) = false := by rw [decide_eq_false_iff_not]; omega
  have c3 : decide (a > 1099511627776) = false := by rw [decide_eq_false_iff_not]; omega
  simp only [c1, c2, c3, cond_false, cond_or, Bool.or_self, Option.bind_some]
  rw [through () ws.length (by omega) (fun i hi => ?_) (by simp)]
  · simp only [Option.bind_some, Sum.elim_inl]
    refine (bindT (fun i => ((ws.take i).sum, (i : Int))) rfl (Sum.inl ws.sum) ws.length (show ws.length < N by omega) (fun i hi => ?_) ?_).trans ?_
    · have hw := g.wt _ (getD_mem ws i 0 hi)
      have hb := sum_bound (fun x : Int => x) 1000000000 (ws.take i) (fun x hx => g.wt x (List.mem_of_mem_take hx))
      have hs := sum_step (fun x : Int => x) ws 0 i hi
      simp only [List.map_id'] at hb hs
      have hlen : (ws.take i).length ≤ 8 := by simp; omega
      have hplus : split_plus N (ws.take i).sum (ws.getD i 0) = some ((ws.take i).sum + ws.getD i 0, true) := by
        unfold split_plus
        rw [wrap64 (z := 1099511627776 - (ws.take i).sum) (by omega) (by omega), wrap64 (z := -1099511627776 - (ws.take i).sum) (by omega) (by omega), wrap64 (by omega) (by omega)]
        have d1 : decide (ws.getD i 0 > 1099511627776 - (ws.take i).sum) = false := by rw [decide_eq_false_iff_not]; omega
        have d2 : decide (ws.getD i 0 < -1099511627776 - (ws.take i).sum) = false := by rw [decide_eq_false_iff_not]; omega
        simp only [d1, d2, cond_false, Option.bind_some]
      simp only [dlt hi, dge, Bool.and_self, cond_true, Int.toNat_natCast, split_check_1, Option.bind_some, hplus, Bool.not_true, cond_false, wrapC (show i < 9223372036854775807 by omega), hs]
    · simp only [dnlt, cond_false, List.take_length]
    · have : (ws.sum == 0) = false := by rw [beq_eq_false_iff_ne]; omega
      simp only [Sum.elim_inl, this, cond_false]
  · have hw := g.wt _ (getD_mem ws i 0 hi)
    have d1 : decide (ws.getD i 0 < 0) = false := by rw [decide_eq_false_iff_not]; omega
    have d2 : decide (ws.getD i 0 > 1000000000) = false := by rw [decide_eq_false_iff_not]; omega
    simp only [dlt hi, dge, Bool.and_self, cond_true, Int.toNat_natCast, d1, d2, cond_false, Option.bind_some, Bool.or_self, wrapN (show i < 9223372036854775807 by omega)]
end
theorem sorted_facts {rs : List Int} {n : Nat} {o : List Int} (h : Sorted rs n o) : o.length = n ∧ (∀ v, v ∈ o → 0 ≤ v ∧ v < n) ∧ o.Nodup :=
  ⟨by rw [h.1.length_eq, idx_len], fun v hv => idx_mem.1 (h.1.mem_iff.1 hv), h.1.nodup_iff.2 (idx_nodup n)⟩
theorem mixd_at {α : Type} {t l : List α} (h : t.length = l.length) {i : Nat} (hi : i < l.length) (d : α) : (mixd t l (i + 1)).getD i d = t.getD i d := by
  have : (t.take (i + 1)).length = i + 1 := by simp; omega
  have h2 : i < t.length := by omega
  simp [mixd, List.getD, List.getElem?_append, this, List.getElem?_take, List.getElem?_eq_getElem h2]
section
variable {N : Nat} (hN : 1000 < N) {a : Int} {ws : List Int} (g : Good a ws)
include hN g
theorem split_eq {o : List Int} (ho : whileF N (outerB N (ws.map (rF a ws.sum)) ws.length) (1, idx ws.length) = some o) (hS : Sorted (ws.map (rF a ws.sum)) ws.length o) :
    split_Split N a ws = some (incs (ws.map (qF a ws.sum)) (o.take (a - (ws.map (qF a ws.sum)).sum).toNat), 0) := by
  obtain ⟨h1, h2, h3, h4⟩ := g.sum
  have hl := g.len
  have hp := g.pos
  obtain ⟨L1, L2, L3⟩ := g.left
  obtain ⟨o1, o2, o3⟩ := sorted_facts hS
  unfold split_Split
  have c1 : decide ((ws.length : Int) ≤ (ws.length : Int)) = true := by simp
  have c2 : decide ((ws.length : Int) * 8 ≤ 140737488355328) = true := by rw [decide_eq_true_eq]; omega
  simp only [check_eq hN g, Option.bind_some, bne_self_eq_false, cond_false, c1, c2, Bool.and_self, cond_true, Int.toNat_natCast]
  have hz : (List.replicate ws.length (0 : Int)).length = ws.length := List.length_replicate
  have m1 : (ws.map (qF a ws.sum)).length = (List.replicate ws.length (0 : Int)).length := by simp
  have m2 : (ws.map (rF a ws.sum)).length = (List.replicate ws.length (0 : Int)).length := by simp
  have m3 : (idx ws.length).length = (List.replicate ws.length (0 : Int)).length := by rw [idx_len, hz]
  refine (bindT (fun i => (a - ((ws.take i).map (qF a ws.sum)).sum, (i : Int), mixd (ws.map (qF a ws.sum)) (List.replicate ws.length 0) i, mixd (ws.map (rF a ws.sum)) (List.replicate ws.length 0) i, mixd (idx ws.length) (List.replicate ws.length 0) i)) ?_
    (a - (ws.map (qF a ws.sum)).sum, ws.map (qF a ws.sum), ws.map (rF a ws.sum), idx ws.length) ws.length (show ws.length < N by omega) (fun i hi => ?_) ?_).trans ?_
  · simp [mixd_zero]
  · have hi' : i < (List.replicate ws.length (0 : Int)).length := by rw [hz]; exact hi
    have hw := getD_mem ws i 0 hi
    have hq := g.q hw
    have hb := g.wt _ hw
    have hsb := sum_bound (qF a ws.sum) 8000000000 (ws.take i) (fun w hw => by have := g.q (List.mem_of_mem_take hw); omega)
    have hlen : (ws.take i).length ≤ 8 := by simp; omega
    have hex : split_exact N a (ws.getD i 0) ws.sum = some (qF a ws.sum (ws.getD i 0), rF a ws.sum (ws.getD i 0)) := exact_eq (by omega) (by omega) hb.1 hb.2 h2 (by omega) hq.2.2.2.2
    have e1 : (mixd (ws.map (qF a ws.sum)) (List.replicate ws.length 0) i).set i (qF a ws.sum (ws.getD i 0)) = mixd (ws.map (qF a ws.sum)) (List.replicate ws.length 0) (i + 1) := mixd_set m1 hi' _ 0 (getD_map _ ws i 0 0 hi).symm
    have e2 : (mixd (ws.map (rF a ws.sum)) (List.replicate ws.length 0) i).set i (rF a ws.sum (ws.getD i 0)) = mixd (ws.map (rF a ws.sum)) (List.replicate ws.length 0) (i + 1) := mixd_set m2 hi' _ 0 (getD_map _ ws i 0 0 hi).symm
    have e3 : (mixd (idx ws.length) (List.replicate ws.length 0) i).set i (i : Int) = mixd (idx ws.length) (List.replicate ws.length 0) (i + 1) := mixd_set m3 hi' _ 0 (idx_get hi).symm
    have e4 : (mixd (ws.map (qF a ws.sum)) (List.replicate ws.length 0) (i + 1)).getD i 0 = qF a ws.sum (ws.getD i 0) := (mixd_at m1 hi' 0).trans (getD_map _ ws i 0 0 hi)
    simp only [dlt hi, dge, Bool.and_self, cond_true, Int.toNat_natCast, hex, Option.bind_some, mixd_len m1, mixd_len m2, mixd_len m3, dlt hi', e1, e2, e3, e4, wrapC (show i < 9223372036854775807 by omega), sum_step (qF a ws.sum) ws 0 i hi]
    rw [wrap64 (by omega) (by omega)]
    congr 3
    omega
  · have x1 := mixd_all m1
    have x2 := mixd_all m2
    have x3 := mixd_all m3
    rw [hz] at x1 x2 x3
    simp only [dnlt, cond_false, List.take_length, x1, x2, x3]
  · simp only [idx_len]
    refine (bindT (fun _ => ((0 : Int), (20 : Int), idx ws.length)) rfl ((0 : Int), idx ws.length) 0 (show 0 < N by omega) (fun i hi => by omega) ?_).trans ?_
    · have : decide ((20 : Int) ≤ (ws.length : Int)) = false := by rw [decide_eq_false_iff_not]; omega
      simp only [this, cond_false]
    · have w1 : IntKind.i64.wrap ((0 : Int) + 1) = 1 := by decide
      simp only [w1]
      refine (bind_while (r0 := o) ho).trans ?_
      refine (bindT (fun _ => ((20 : Int), o)) rfl o 0 (show 0 < N by omega) (fun i hi => by omega) ?_).trans ?_
      · have : decide ((20 : Int) < (ws.length : Int)) = false := by rw [decide_eq_false_iff_not]; omega
        simp only [this, cond_false]
      · obtain ⟨lf, hlf⟩ : ∃ lf : Nat, a - (ws.map (qF a ws.sum)).sum = lf := ⟨(a - (ws.map (qF a ws.sum)).sum).toNat, by omega⟩
        simp only [hlf, Int.toNat_natCast, o1, dge]
        rw [hlf] at L2
        have d1 : decide ((lf : Int) ≤ (ws.length : Int)) = true := by rw [decide_eq_true_eq]; omega
        have htl : (o.take lf).length = lf := by simp; omega
        simp only [d1, Bool.and_self, cond_true, htl]
        refine (bindT (fun k => ((k : Int), incs (ws.map (qF a ws.sum)) ((o.take lf).take k))) rfl (incs (ws.map (qF a ws.sum)) (o.take lf)) lf (show lf < N by omega) (fun k hk => ?_) ?_).trans rfl
        · have hk' : k < (o.take lf).length := by rw [htl]; exact hk
          have hv := o2 _ (List.mem_of_mem_take (getD_mem (o.take lf) k 0 hk'))
          have f1 : decide (0 ≤ (o.take lf).getD k 0) = true := by rw [decide_eq_true_eq]; omega
          have f2 : decide ((o.take lf).getD k 0 < (ws.length : Int)) = true := by rw [decide_eq_true_eq]; omega
          simp only [dlt hk, dge, Bool.and_self, cond_true, Int.toNat_natCast, incs_len, List.length_map, f1, f2, Option.bind_some, wrapC (show k < 9223372036854775807 by omega)]
          rw [incs_step _ _ k hk']
          rfl
        · have : (o.take lf).take lf = o.take lf := by rw [List.take_take, Nat.min_self]
          simp only [dnlt, cond_false, this]
theorem split_one : ∃ o, Sorted (ws.map (rF a ws.sum)) ws.length o ∧ split_Split N a ws = some (incs (ws.map (qF a ws.sum)) (o.take (a - (ws.map (qF a ws.sum)).sum).toNat), 0) := by
  obtain ⟨o, ho, hS⟩ := sort_spec hN (rs := ws.map (rF a ws.sum)) (n := ws.length) (by simp) g.len
  exact ⟨o, hS, split_eq hN g ho hS⟩
end
theorem perm_sum {l1 l2 : List Int} (h : l1.Perm l2) : l1.sum = l2.sum := by
  induction h with
  | nil => rfl
  | cons x _ ih => simp [ih]
  | swap x y l => simp only [List.sum_cons]; omega
  | trans _ _ h1 h2 => exact h1.trans h2
theorem idx_map (rs : List Int) : (idx rs.length).map (rat rs) = rs := by
  refine list_ext 0 (by rw [List.length_map, idx_len]) fun i hi => ?_
  rw [List.length_map, idx_len] at hi
  rw [getD_map (rat rs) (idx rs.length) i 0 0 (by rw [idx_len]; exact hi), idx_get hi]
  unfold rat
  rw [Int.toNat_natCast]
section
variable {a : Int} {ws : List Int} (g : Good a ws) {o : List Int} (hS : Sorted (ws.map (rF a ws.sum)) ws.length o)
def partsOf (a : Int) (ws o : List Int) : List Int := incs (ws.map (qF a ws.sum)) (o.take (a - (ws.map (qF a ws.sum)).sum).toNat)
include g hS
theorem top_pos {v : Int} (hv : v ∈ o.take (a - (ws.map (qF a ws.sum)).sum).toNat) : 0 < rat (ws.map (rF a ws.sum)) v := by
  obtain ⟨h1, h2, h3, h4⟩ := g.sum
  obtain ⟨L1, L2, L3⟩ := g.left
  obtain ⟨o1, o2, o3⟩ := sorted_facts hS
  obtain ⟨lf, hlf⟩ : ∃ lf : Nat, a - (ws.map (qF a ws.sum)).sum = lf := ⟨(a - (ws.map (qF a ws.sum)).sum).toNat, by omega⟩
  rw [hlf] at hv L2 L3
  rw [Int.toNat_natCast] at hv
  have hr : ∀ u, u ∈ o → 0 ≤ rat (ws.map (rF a ws.sum)) u ∧ rat (ws.map (rF a ws.sum)) u ≤ ws.sum - 1 := fun u hu => by
    have hb := o2 u hu
    unfold rat
    rw [getD_map _ ws u.toNat 0 0 (by omega)]
    have := g.q (getD_mem ws u.toNat 0 (by omega))
    omega
  apply Int.not_le.1
  intro hle
  obtain ⟨m, hm, hvm⟩ := mem_getD 0 hv
  have htl : (o.take lf).length = lf := by simp; omega
  rw [htl] at hm
  rw [getD_take _ _ _ _ hm] at hvm
  have hmo : m < o.length := by omega
  have hsplit : o = o.take m ++ v :: o.drop (m + 1) := by
    conv => lhs; rw [← List.take_append_drop m o]
    rw [List.drop_eq_getElem_cons hmo, ← hvm]
    simp [List.getD, List.getElem?_eq_getElem hmo]
  have hpw := hS.2
  rw [hsplit, List.pairwise_append, List.pairwise_cons] at hpw
  have hsum : (ws.map (rF a ws.sum)).sum = (o.map (rat (ws.map (rF a ws.sum)))).sum := by
    have e1 := idx_map (ws.map (rF a ws.sum))
    have e2 := perm_sum (hS.1.map (rat (ws.map (rF a ws.sum))))
    rw [e2]
    have e3 : idx ws.length = idx (ws.map (rF a ws.sum)).length := by rw [List.length_map]
    rw [e3, e1]
  have hzero : ((v :: o.drop (m + 1)).map (rat (ws.map (rF a ws.sum)))).sum ≤ 0 := by
    have := sum_bound (rat (ws.map (rF a ws.sum))) 0 (v :: o.drop (m + 1)) (fun u hu => by
      have huo : u ∈ o := by rw [hsplit]; exact List.mem_append_right _ hu
      have := hr u huo
      rcases List.mem_cons.1 hu with rfl | hu
      · omega
      · have := hpw.2.1.1 u hu
        unfold ltR at this
        omega)
    omega
  have htake := sum_bound (rat (ws.map (rF a ws.sum))) (ws.sum - 1) (o.take m) (fun u hu => hr u (List.mem_of_mem_take hu))
  have hml : (o.take m).length = m := by simp; omega
  rw [hml] at htake
  rw [hsplit, List.map_append, List.sum_append] at hsum
  have e5 : ws.sum * (lf : Int) = ws.sum * (m : Int) + ws.sum * ((lf : Int) - m) := by rw [← Int.mul_add]; congr 1; omega
  have e6 : (ws.sum - 1) * (m : Int) = ws.sum * m - m := by rw [Int.sub_mul, Int.one_mul]
  have e7 : ws.sum * 1 ≤ ws.sum * ((lf : Int) - m) := Int.mul_le_mul_of_nonneg_left (by omega) (by omega)
  omega
theorem parts_facts : (partsOf a ws o).length = ws.length ∧ (partsOf a ws o).sum = a ∧ ∀ i, i < ws.length → (∃ b : Bool, (partsOf a ws o).getD i 0 = qF a ws.sum (ws.getD i 0) + (bif b then 1 else 0) ∧ (b = true → 0 < rF a ws.sum (ws.getD i 0))) ∧
    0 ≤ (partsOf a ws o).getD i 0 ∧ (partsOf a ws o).getD i 0 ≤ ws.getD i 0 := by
  obtain ⟨h1, h2, h3, h4⟩ := g.sum
  have hl := g.len
  have hle := g.le
  obtain ⟨L1, L2, L3⟩ := g.left
  obtain ⟨o1, o2, o3⟩ := sorted_facts hS
  have hqb : ∀ x, x ∈ ws.map (qF a ws.sum) → 0 ≤ x ∧ x ≤ 8000000000 := fun x hx => by
    obtain ⟨w, hw, rfl⟩ := List.mem_map.1 hx
    have := g.q hw
    omega
  have hT : ∀ v, v ∈ o.take (a - (ws.map (qF a ws.sum)).sum).toNat → 0 ≤ v ∧ v < ((ws.map (qF a ws.sum)).length : Int) := fun v hv => by rw [List.length_map]; exact o2 v (List.mem_of_mem_take hv)
  have htl : (o.take (a - (ws.map (qF a ws.sum)).sum).toNat).length = (a - (ws.map (qF a ws.sum)).sum).toNat := by simp; omega
  have hlim : (8000000000 : Int) + ((o.take (a - (ws.map (qF a ws.sum)).sum).toNat).length : Int) ≤ 4611686018427387904 := by rw [htl]; omega
  refine ⟨by unfold partsOf; rw [incs_len, List.length_map], ?_, fun i hi => ?_⟩
  · unfold partsOf
    rw [(incs_spec _ _ 8000000000 hqb hT (by omega) hlim).1, htl]
    omega
  · have hw := getD_mem ws i 0 hi
    have hq := g.q hw
    have hget := incs_get _ _ 8000000000 hqb hT (by omega) hlim (o3.sublist (List.take_sublist _ _)) i (by rw [List.length_map]; exact hi)
    rw [getD_map _ ws i 0 0 hi] at hget
    have hgp : (partsOf a ws o).getD i 0 = qF a ws.sum (ws.getD i 0) + bif (o.take (a - (ws.map (qF a ws.sum)).sum).toNat).contains (i : Int) then 1 else 0 := hget
    have hpos : (o.take (a - (ws.map (qF a ws.sum)).sum).toNat).contains (i : Int) = true → 0 < rF a ws.sum (ws.getD i 0) := fun hc => by
      have := top_pos g hS (v := (i : Int)) (by simpa using hc)
      unfold rat at this
      rwa [Int.toNat_natCast, getD_map _ ws i 0 0 hi] at this
    have hdiv : ws.sum * qF a ws.sum (ws.getD i 0) + rF a ws.sum (ws.getD i 0) = a * ws.getD i 0 := Int.mul_ediv_add_emod _ _
    have hwb := g.wt _ hw
    have hmul : a * ws.getD i 0 ≤ ws.sum * ws.getD i 0 := Int.mul_le_mul_of_nonneg_right hle hwb.1
    have hqw : ∀ z : Int, ws.sum * z ≤ ws.sum * ws.getD i 0 → z ≤ ws.getD i 0 := fun z hz => Int.le_of_mul_le_mul_left hz h2
    refine ⟨⟨_, hgp, hpos⟩, ?_, ?_⟩
    · rw [hgp]
      cases (o.take (a - (ws.map (qF a ws.sum)).sum).toNat).contains (i : Int)
      · rw [cond_false]; omega
      · rw [cond_true]; omega
    · rw [hgp]
      cases hc : (o.take (a - (ws.map (qF a ws.sum)).sum).toNat).contains (i : Int) with
      | false =>
        rw [cond_false, Int.add_zero]
        exact hqw _ (by omega)
      | true =>
        have hp := hpos hc
        rw [cond_true]
        have h5 : qF a ws.sum (ws.getD i 0) < ws.getD i 0 := Int.lt_of_mul_lt_mul_left (a := ws.sum) (by omega) (by omega)
        omega
end
def wsOf (l : List Pond) : List Int := l.map fun p => p.Volume - p.Least
def takeP (p : Pond) (n : Int) : Pond := Pond.mk p.ID (IntKind.i64.wrap (p.Volume - n)) p.Least p.Most p.Inflow
def takeL (l : List Pond) (ps : List Int) : List Pond := l.zipWith takeP ps
theorem take_get {l : List Pond} {ps : List Int} {i : Nat} (h1 : i < l.length) (h2 : i < ps.length) : (takeL l ps).getD i z_Pond = takeP (l.getD i z_Pond) (ps.getD i 0) := by
  simp [takeL, List.getD, List.getElem?_zipWith, List.getElem?_eq_getElem h1, List.getElem?_eq_getElem h2]
theorem take_len {l : List Pond} {ps : List Int} (h : ps.length = l.length) : (takeL l ps).length = l.length := by simp [takeL, h]
theorem good_of {l : List Pond} (hl : l.length ≤ 8) (h : ∀ p, p ∈ l → PondOk p) {x : Int} (h0 : 0 < x) (h1 : x ≤ spaI l) : Good x (wsOf l) :=
  ⟨by simp [wsOf, hl], fun w hw => by
    obtain ⟨p, hp, rfl⟩ := List.mem_map.1 hw
    have := h p hp
    unfold PondOk at this
    omega, h0, h1⟩
section
variable {N : Nat} (hN : 1000 < N) {l : List Pond} (hl : l.length ≤ 8) (h : ∀ p, p ∈ l → PondOk p)
include hN hl h
theorem take_some {x : Int} (hx : 0 < x) (h1 : x ≤ spaI l) : ∃ o, Sorted ((wsOf l).map (rF x (wsOf l).sum)) (wsOf l).length o ∧ pond_Take N l x = some (takeL l (partsOf x (wsOf l) o), 0) := by
  have g := good_of hl h hx h1
  obtain ⟨o, hS, e1⟩ := split_one hN g
  have hpf := parts_facts g hS
  have hwl : (wsOf l).length = l.length := by simp [wsOf]
  have hpl : (partsOf x (wsOf l) o).length = l.length := by rw [hpf.1, hwl]
  have e1' : split_Split N x (wsOf l) = some (partsOf x (wsOf l) o, 0) := e1
  have c0 : decide (x < 0) = false := by rw [decide_eq_false_iff_not]; omega
  have c1 : decide (x > spaI l) = false := by rw [decide_eq_false_iff_not]; omega
  have c2 : (x == 0) = false := by rw [beq_eq_false_iff_ne]; omega
  have c3 : decide (x > 0) = true := by rw [decide_eq_true_eq]; omega
  have d1 : decide ((l.length : Int) ≤ (l.length : Int)) = true := by simp
  have d2 : decide ((l.length : Int) * 8 ≤ 140737488355328) = true := by rw [decide_eq_true_eq]; omega
  refine ⟨o, hS, ?_⟩
  · unfold pond_Take
    simp only [c0, cond_false, spare_eq hN l hl h, Option.bind_some, c1, clone_eq l (show l.length ≤ 900 by omega), c2, d1, d2, Bool.and_self, cond_true, Int.toNat_natCast]
    have m1 : (wsOf l).length = (List.replicate l.length (0 : Int)).length := by rw [hwl, List.length_replicate]
    refine (bindT (fun i => ((i : Int), mixd (wsOf l) (List.replicate l.length 0) i)) (by simp [mixd_zero]) (wsOf l) l.length (show l.length < N by omega) (fun i hi => ?_) ?_).trans ?_
    · have hi' : i < (List.replicate l.length (0 : Int)).length := by rw [List.length_replicate]; exact hi
      have hp := h _ (getD_mem l i z_Pond hi)
      unfold PondOk at hp
      have hw : IntKind.i64.wrap ((l.getD i z_Pond).Volume - (l.getD i z_Pond).Least) = (wsOf l).getD i 0 := by
        rw [wrap64 (by omega) (by omega)]; exact (getD_map (fun p : Pond => p.Volume - p.Least) l i z_Pond 0 hi).symm
      simp only [dlt hi, dge, Bool.and_self, cond_true, Int.toNat_natCast, mixd_len m1, dlt hi', Option.bind_some, hw, wrapC (show i < 9223372036854775807 by omega)]
      rw [mixd_set m1 hi' _ 0 rfl]
    · have := mixd_all m1
      rw [List.length_replicate] at this
      simp only [dnlt, cond_false, this]
    · simp only [e1', Option.bind_some, bne_self_eq_false, cond_false, hpl]
      have m2 : (takeL l (partsOf x (wsOf l) o)).length = l.length := take_len hpl
      refine (bindT (fun i => ((i : Int), mixd (takeL l (partsOf x (wsOf l) o)) l i)) (by simp [mixd_zero]) (takeL l (partsOf x (wsOf l) o)) l.length (show l.length < N by omega) (fun i hi => ?_) ?_).trans rfl
      · simp only [dlt hi, dge, Bool.and_self, cond_true, Int.toNat_natCast, mixd_len m2, mixd_getD m2 hi, Option.bind_some, wrapC (show i < 9223372036854775807 by omega)]
        rw [← mixd_set m2 hi _ z_Pond (take_get hi (by omega)).symm]
        rfl
      · have := mixd_all m2
        simp only [dnlt, cond_false, this]
end
def Rel (l0 l : List Pond) : Prop := l.length = l0.length ∧ ∀ k, k < l0.length → (l.getD k z_Pond).ID = (l0.getD k z_Pond).ID ∧ (l.getD k z_Pond).Least = (l0.getD k z_Pond).Least ∧ (l.getD k z_Pond).Most = (l0.getD k z_Pond).Most ∧
  (l.getD k z_Pond).Inflow = (l0.getD k z_Pond).Inflow ∧ (l0.getD k z_Pond).Least ≤ (l.getD k z_Pond).Volume ∧ (l.getD k z_Pond).Volume ≤ (l0.getD k z_Pond).Most
theorem rel_right {l0 l : List Pond} (h0 : rightS l0 = 0) (h : Rel l0 l) : rightS l = 0 := by
  obtain ⟨hl, hr⟩ := (right_iff l0).1 h0
  obtain ⟨e, hk⟩ := h
  refine (right_iff l).2 ⟨by omega, fun i hi => ?_⟩
  rw [e] at hi
  obtain ⟨a, b⟩ := hr i hi
  obtain ⟨k1, k2, k3, k4, k5, k6⟩ := hk i hi
  refine ⟨?_, ?_⟩
  · unfold PondOk at a ⊢
    omega
  · rw [← b, k1]
    unfold seenP
    rw [fst_congr fun j hj => ?_]
    rw [(hk j (by omega)).1]
theorem sum_map_getD {l : List Pond} (f : Pond → Int) : ∀ {m : List Pond}, m.length = l.length → (g : Nat → Int) → (∀ k, k < l.length → f (m.getD k z_Pond) = f (l.getD k z_Pond) + g k) → (m.map f).sum = (l.map f).sum + ((List.range l.length).map g).sum := by
  have key : ∀ (n : Nat) {m : List Pond}, n ≤ l.length → m.length = l.length → (g : Nat → Int) → (∀ k, k < l.length → f (m.getD k z_Pond) = f (l.getD k z_Pond) + g k) → ((m.take n).map f).sum = ((l.take n).map f).sum + ((List.range n).map g).sum := by
    intro n
    induction n with
    | zero => intros; simp
    | succ n ih =>
      intro m hn hm g hg
      rw [sum_step f m z_Pond n (by omega), sum_step f l z_Pond n (by omega), ih (by omega) hm g hg, List.range_succ, List.map_append, List.sum_append, hg n (by omega)]
      simp
      omega
  intro m hm g hg
  have := key l.length (Nat.le_refl _) hm g hg
  rw [List.take_length] at this
  rw [← hm, List.take_length, hm] at this
  exact this
theorem sum_getD (l : List Int) : ((List.range l.length).map fun k => l.getD k 0).sum = l.sum := by
  congr 1
  refine list_ext 0 (by simp) fun i hi => ?_
  simp only [List.length_map, List.length_range] at hi
  simp [List.getD, hi]
theorem sum_getD_map (l : List Pond) (f : Pond → Int) : ((List.range l.length).map fun k => f (l.getD k z_Pond)).sum = (l.map f).sum := by
  congr 1
  refine list_ext 0 (by simp) fun i hi => ?_
  simp only [List.length_map, List.length_range] at hi
  simp [List.getD, hi]
theorem fill_rel {l0 l : List Pond} (hl : l.length ≤ 8) (ha : ∀ p, p ∈ l → PondOk p) (h : Rel l0 l) {t : Int} (h0 : 0 ≤ t) (h1 : t ≤ 86400) : Rel l0 (l.map (fillP t)) ∧ totI (l.map (fillP t)) = totI l + sumW l t := by
  obtain ⟨e, hk⟩ := h
  have hv : ∀ k, k < l.length → ((l.map (fillP t)).getD k z_Pond).Volume = (l.getD k z_Pond).Volume + fillI (l.getD k z_Pond) t := fun k hk' => by
    rw [getD_map (fillP t) l k z_Pond z_Pond hk']
    exact fillP_vol (ha _ (getD_mem l k z_Pond hk')) h0 h1
  refine ⟨⟨by simp [e], fun k hk0 => ?_⟩, ?_⟩
  · have hk' : k < l.length := by omega
    obtain ⟨k1, k2, k3, k4, k5, k6⟩ := hk k hk0
    have hb := fillI_bound (ha _ (getD_mem l k z_Pond hk')) h0
    have hv' := hv k hk'
    rw [getD_map (fillP t) l k z_Pond z_Pond hk'] at hv' ⊢
    have hv2 : (fillP t (l.getD k z_Pond)).Volume = (l.getD k z_Pond).Volume + fillI (l.getD k z_Pond) t := hv'
    refine ⟨k1, k2, k3, k4, ?_, ?_⟩ <;> rw [hv2] <;> omega
  · unfold totI
    rw [sumW_eq hl ha h0 h1, sum_map_getD (fun p => p.Volume) (by simp) (fun k => fillI (l.getD k z_Pond) t) hv, sum_getD_map l fun p => fillI p t]
theorem take_rel {l0 l : List Pond} (ha : ∀ p, p ∈ l → PondOk p) (h : Rel l0 l) {ps : List Int} (hp : ps.length = l.length) (hb : ∀ i, i < l.length → 0 ≤ ps.getD i 0 ∧ ps.getD i 0 ≤ (l.getD i z_Pond).Volume - (l.getD i z_Pond).Least) : Rel l0 (takeL l ps) ∧ totI (takeL l ps) = totI l - ps.sum := by
  obtain ⟨e, hk⟩ := h
  have hv : ∀ k, k < l.length → ((takeL l ps).getD k z_Pond).Volume = (l.getD k z_Pond).Volume + -(ps.getD k 0) := fun k hk' => by
    rw [take_get hk' (by omega)]
    have hq := ha _ (getD_mem l k z_Pond hk')
    have hb' := hb k hk'
    unfold PondOk at hq
    show IntKind.i64.wrap ((l.getD k z_Pond).Volume - ps.getD k 0) = _
    rw [wrap64 (by omega) (by omega)]
    omega
  refine ⟨⟨by rw [take_len hp, e], fun k hk0 => ?_⟩, ?_⟩
  · have hk' : k < l.length := by omega
    obtain ⟨k1, k2, k3, k4, k5, k6⟩ := hk k hk0
    have hb' := hb k hk'
    have hv' := hv k hk'
    rw [take_get hk' (by omega)] at hv' ⊢
    refine ⟨k1, k2, k3, k4, ?_, ?_⟩ <;> rw [hv'] <;> omega
  · unfold totI
    rw [sum_map_getD (fun p => p.Volume) (take_len hp) (fun k => -(ps.getD k 0)) hv]
    have : ((List.range l.length).map fun k => -(ps.getD k 0)).sum = -ps.sum := by
      rw [← sum_getD ps, hp]
      generalize List.range l.length = r
      induction r with
      | nil => simp
      | cons x r ih => simp only [List.map_cons, List.sum_cons, ih]; omega
    rw [this]
    omega
theorem rel_refl {l : List Pond} (h : ∀ p, p ∈ l → PondOk p) : Rel l l := ⟨rfl, fun k hk => by
  have := h _ (getD_mem l k z_Pond hk)
  unfold PondOk at this
  omega⟩
theorem tot_bound {l : List Pond} (hl : l.length ≤ 8) (h : ∀ p, p ∈ l → PondOk p) : 0 ≤ totI l ∧ totI l ≤ 8000000000 := by
  have := sum_bound (fun p : Pond => p.Volume) 1000000000 l (fun p hp => by have := h p hp; unfold PondOk at this; omega)
  unfold totI
  omega
end Go.Proofs.Ytkhkblihdabnoaa.Pn
