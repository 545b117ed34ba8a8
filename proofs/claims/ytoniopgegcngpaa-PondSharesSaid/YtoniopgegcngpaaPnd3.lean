/- The ponds: exact parts: products of 128 bits and divisions, in plain words. No condition. -/
import Derived.Test.YtoniopgegcngpaaPnd1
namespace Go.Proofs.Ytoniopgegcngpaa
open Go.Cm Go.Proofs
theorem wrapU {z : Int} (h1 : 0 ≤ z) (h2 : z < 18446744073709551616) : IntKind.u64.wrap z = z := by
  show (let m := z % (2 ^ 64 : Int); if false && m ≥ (2 ^ 63 : Int) then m - (2 ^ 64 : Int) else m) = z
  simp only [Bool.false_and, Bool.false_eq_true, if_false]
  omega
theorem shr32 {x : Int} (h : 0 ≤ x) : shrI IntKind.u64 x 32 = x / 4294967296 := by
  show x.fdiv (2 ^ 32) = _
  rw [Int.fdiv_eq_ediv_of_nonneg _ (by decide)]
  rfl
theorem and32 {x : Int} (h1 : 0 ≤ x) (h2 : x < 18446744073709551616) : andI IntKind.u64 x 4294967295 = x % 4294967296 := by
  obtain ⟨n, rfl⟩ : ∃ n : Nat, x = n := ⟨x.toNat, by omega⟩
  show IntKind.u64.wrap ((BitVec.ofInt 64 (n : Int) &&& BitVec.ofInt 64 4294967295).toNat : Int) = _
  have e1 : (BitVec.ofInt 64 (n : Int)).toNat = n := by
    rw [BitVec.toNat_ofInt]
    have : ((n : Int) % ((2 ^ 64 : Nat) : Int)).toNat = n := by
      have : ((2 ^ 64 : Nat) : Int) = 18446744073709551616 := by decide
      rw [this]
      omega
    exact this
  have e2 : (BitVec.ofInt 64 4294967295).toNat = 2 ^ 32 - 1 := by decide
  rw [BitVec.toNat_and, e1, e2, Nat.and_two_pow_sub_one_eq_mod, wrapU (by omega) (by omega)]
  omega
theorem mul_small {x y : Int} (hx0 : 0 ≤ x) (hx1 : x < 18446744073709551616) (hy0 : 0 ≤ y) (hy1 : y < 18446744073709551616) (h : x * y < 18446744073709551616) {N : Nat} : bits_Mul64 N x y = some (0, x * y) := by
  unfold bits_Mul64
  rw [shr32 hx0, shr32 hy0, and32 hx0 hx1, and32 hy0 hy1]
  obtain ⟨x1, hx1'⟩ : ∃ z, x / 4294967296 = z := ⟨_, rfl⟩
  obtain ⟨x0, hx0'⟩ : ∃ z, x % 4294967296 = z := ⟨_, rfl⟩
  obtain ⟨y1, hy1'⟩ : ∃ z, y / 4294967296 = z := ⟨_, rfl⟩
  obtain ⟨y0, hy0'⟩ : ∃ z, y % 4294967296 = z := ⟨_, rfl⟩
  rw [hx1', hx0', hy1', hy0']
  have bx1 : 0 ≤ x1 ∧ x1 ≤ 4294967295 := by omega
  have bx0 : 0 ≤ x0 ∧ x0 ≤ 4294967295 := by omega
  have by1 : 0 ≤ y1 ∧ y1 ≤ 4294967295 := by omega
  have by0 : 0 ≤ y0 ∧ y0 ≤ 4294967295 := by omega
  have key : ∀ {u v : Int}, (0 ≤ u ∧ u ≤ 4294967295) → (0 ≤ v ∧ v ≤ 4294967295) → 0 ≤ u * v ∧ u * v ≤ 18446744065119617025 := fun hu hv =>
    ⟨Int.mul_nonneg hu.1 hv.1, Int.le_trans (Int.mul_le_mul hu.2 hv.2 hv.1 (by omega)) (by decide)⟩
  have ha := key bx0 by0
  have hb := key bx0 by1
  have hc := key bx1 by0
  have hd := key bx1 by1
  have hxy : x * y = (x1 * y1) * 18446744073709551616 + (x0 * y1 + x1 * y0) * 4294967296 + x0 * y0 := by
    have e1 : x = 4294967296 * x1 + x0 := by omega
    have e2 : y = 4294967296 * y1 + y0 := by omega
    have m1 : (4294967296 * x1) * (4294967296 * y1) = 18446744073709551616 * (x1 * y1) := by
      rw [Int.mul_assoc, Int.mul_left_comm x1 4294967296 y1, ← Int.mul_assoc]
      rfl
    have m2 : (4294967296 * x1) * y0 = 4294967296 * (x1 * y0) := Int.mul_assoc ..
    have m3 : x0 * (4294967296 * y1) = 4294967296 * (x0 * y1) := Int.mul_left_comm ..
    rw [e1, e2, Int.add_mul, Int.mul_add, Int.mul_add, m1, m2, m3]
    omega
  have hnn : 0 ≤ x * y := Int.mul_nonneg hx0 hy0
  rw [hxy] at h hnn
  rw [hxy]
  generalize x0 * y0 = a at *
  generalize x0 * y1 = b at *
  generalize x1 * y0 = c at *
  generalize x1 * y1 = d at *
  have w1 : IntKind.u64.wrap a = a := wrapU (by omega) (by omega)
  have w2 : IntKind.u64.wrap b = b := wrapU (by omega) (by omega)
  have w3 : IntKind.u64.wrap c = c := wrapU (by omega) (by omega)
  have w4 : IntKind.u64.wrap d = d := wrapU (by omega) (by omega)
  rw [w1, w2, w3, w4, shr32 (x := a) (by omega)]
  have w5 : IntKind.u64.wrap (c + a / 4294967296) = c + a / 4294967296 := wrapU (by omega) (by omega)
  rw [w5, shr32 (x := c + a / 4294967296) (by omega), and32 (by omega) (by omega)]
  have w6 : IntKind.u64.wrap ((c + a / 4294967296) % 4294967296 + b) = (c + a / 4294967296) % 4294967296 + b := wrapU (by omega) (by omega)
  rw [w6, shr32 (x := (c + a / 4294967296) % 4294967296 + b) (by omega)]
  have w7 : IntKind.u64.wrap (d + (c + a / 4294967296) / 4294967296) = d + (c + a / 4294967296) / 4294967296 := wrapU (by omega) (by omega)
  rw [w7]
  have w8 : d + (c + a / 4294967296) / 4294967296 + ((c + a / 4294967296) % 4294967296 + b) / 4294967296 = 0 := by omega
  rw [w8, wrapU (z := 0) (by omega) (by omega), wrapU (z := d * 18446744073709551616 + (b + c) * 4294967296 + a) hnn h]
theorem exact_eq {N : Nat} {a w s : Int} (ha : 0 ≤ a) (ha' : a ≤ 1099511627776) (hw : 0 ≤ w) (hw' : w ≤ 1000000000) (hs : 0 < s) (hs' : s ≤ 64000000000) (h : a * w < 9223372036854775808) : split_exact N a w s = some (a * w / s, a * w % s) := by
  unfold split_exact
  have hnn : 0 ≤ a * w := Int.mul_nonneg ha hw
  rw [wrapU (z := a) ha (by omega), wrapU (z := w) hw (by omega), wrapU (z := s) (by omega) (by omega), mul_small ha (by omega) hw (by omega) (by omega), Option.bind_some]
  unfold bits_Div64
  have e1 : (s == 0) = false := by rw [beq_eq_false_iff_ne]; omega
  have e2 : decide (s ≤ 0) = false := by rw [decide_eq_false_iff_not]; omega
  have e3 : (s != 0) = true := by rw [bne_iff_ne]; omega
  have hq : 0 ≤ a * w / s := Int.ediv_nonneg hnn (by omega)
  have hq2 : a * w / s ≤ a * w := Int.ediv_le_self _ hnn
  have hm := Int.emod_nonneg (a * w) (show s ≠ 0 by omega)
  have hm2 := Int.emod_lt_of_pos (a * w) hs
  simp only [e1, e2, e3, cond_false, cond_true, Option.bind_some, beq_self_eq_true, Int.tdiv_eq_ediv_of_nonneg hnn, Int.tmod_eq_emod_of_nonneg hnn]
  rw [wrapU (z := a * w / s) hq (by omega), wrap64 (z := a * w / s) (by omega) (by omega), wrap64 (z := a * w % s) (by omega) (by omega)]
/-! bit by bit -/
theorem shrN {x : Int} (h : 0 ≤ x) {i : Nat} (hi : i ≤ 64) : shrI IntKind.i64 x (i : Int) = x / 2 ^ i := by
  show x.fdiv (2 ^ (min ((i : Int).toNat) 64)) = _
  rw [Int.toNat_natCast, Nat.min_eq_left hi, Int.fdiv_eq_ediv_of_nonneg _ (Int.le_of_lt (Int.pow_pos (by decide)))]
theorem and1 {x : Int} (h1 : 0 ≤ x) (h2 : x < 9223372036854775808) : andI IntKind.i64 x 1 = x % 2 := by
  obtain ⟨n, rfl⟩ : ∃ n : Nat, x = n := ⟨x.toNat, by omega⟩
  show IntKind.i64.wrap ((BitVec.ofInt 64 (n : Int) &&& BitVec.ofInt 64 1).toNat : Int) = _
  have e1 : (BitVec.ofInt 64 (n : Int)).toNat = n := by
    rw [BitVec.toNat_ofInt]
    have : ((n : Int) % ((2 ^ 64 : Nat) : Int)).toNat = n := by
      have : ((2 ^ 64 : Nat) : Int) = 18446744073709551616 := by decide
      rw [this]
      omega
    exact this
  have e2 : (BitVec.ofInt 64 1).toNat = 2 ^ 1 - 1 := by decide
  rw [BitVec.toNat_and, e1, e2, Nat.and_two_pow_sub_one_eq_mod, wrap64 (by omega) (by omega)]
  omega
theorem half {w : Int} (h : 0 ≤ w) (i : Nat) : w / 2 ^ (i + 1) = w / 2 ^ i / 2 := by
  rw [Int.pow_succ, Int.ediv_ediv_of_nonneg (Int.le_of_lt (Int.pow_pos (by decide)))]
/-- one bit more -/
theorem bit_step {a s A b : Int} (hs : 0 < s) : (2 * A + b * a) / s = 2 * (A / s) + b * (a / s) + (2 * (A % s) + b * (a % s)) / s ∧ (2 * A + b * a) % s = (2 * (A % s) + b * (a % s)) % s := by
  have e1 := Int.mul_ediv_add_emod A s
  have e2 := Int.mul_ediv_add_emod a s
  have e3 : 2 * A + b * a = (2 * (A % s) + b * (a % s)) + s * (2 * (A / s) + b * (a / s)) := by
    conv => lhs; rw [← e1, ← e2]
    simp only [Int.mul_add, Int.mul_left_comm]
    omega
  rw [e3, Int.add_mul_ediv_left _ _ (show s ≠ 0 by omega), Int.add_mul_emod_self_left]
  exact ⟨by omega, rfl⟩
theorem quot_eq {N : Nat} (hN : 1000 < N) {a w s : Int} (ha : 0 ≤ a) (ha' : a ≤ 1099511627776) (hw : 0 ≤ w) (hw' : w ≤ 1000000000) (hs : 0 < s) (hs' : s ≤ 64000000000) (hws : w ≤ s) : r34_Quotient N a w s = some (a * w / s, a * w % s) := by
  unfold r34_Quotient
  have hw0 : w / 2 ^ 31 = 0 := Int.ediv_eq_zero_of_lt hw (by have : (2 : Int) ^ 31 = 2147483648 := by decide
                                                             omega)
  refine (bindT (fun k : Nat => (a * (w / 2 ^ (31 - k)) / s, a * (w / 2 ^ (31 - k)) % s, (30 : Int) - k)) ?_ (a * w / s, a * w % s) 31 (by omega) (fun k hk => ?_) ?_).trans rfl
  · rw [show 31 - 0 = 31 from rfl, hw0]; simp
  · obtain ⟨i, hi, e0⟩ : ∃ i : Nat, i + k = 30 ∧ (30 : Int) - k = (i : Int) := ⟨30 - k, by omega, by omega⟩
    have e1 : 31 - k = i + 1 := by omega
    have e2 : 31 - (k + 1) = i := by omega
    have e3 : (30 : Int) - ((k + 1 : Nat) : Int) = (i : Int) - 1 := by omega
    simp only [e0, e1, e2, e3]
    have hV0 : 0 ≤ w / 2 ^ i := Int.ediv_nonneg hw (Int.le_of_lt (Int.pow_pos (by decide)))
    have hV1 : w / 2 ^ i ≤ w := Int.ediv_le_self _ hw
    rw [half hw i]
    generalize hV : w / 2 ^ i = V at *
    have c1 : decide ((i : Int) ≥ 0) = true := by simp
    have c3 : (s != 0) = true := by rw [bne_iff_ne]; omega
    have hA := Int.mul_nonneg ha (show 0 ≤ V / 2 by omega)
    have hA2 : a * (V / 2) ≤ a * s := Int.mul_le_mul_of_nonneg_left (by omega) ha
    have hq0 : 0 ≤ a * (V / 2) / s := Int.ediv_nonneg hA (by omega)
    have hq1 : a * (V / 2) / s ≤ a := by
      have := Int.ediv_le_ediv hs hA2
      rwa [Int.mul_ediv_cancel _ (show s ≠ 0 by omega)] at this
    have hr0 := Int.emod_nonneg (a * (V / 2)) (show s ≠ 0 by omega)
    have hr1 := Int.emod_lt_of_pos (a * (V / 2)) hs
    have ga0 : 0 ≤ a / s := Int.ediv_nonneg ha (by omega)
    have ga1 : a / s ≤ a := Int.ediv_le_self _ ha
    have gm0 := Int.emod_nonneg a (show s ≠ 0 by omega)
    have gm1 := Int.emod_lt_of_pos a hs
    have hbit := bit_step (a := a) (A := a * (V / 2)) (b := V % 2) hs
    have haV : a * V = 2 * (a * (V / 2)) + V % 2 * a := by
      have : V = 2 * (V / 2) + V % 2 := by omega
      conv => lhs; rw [this]
      rw [Int.mul_add, Int.mul_left_comm, Int.mul_comm a (V % 2)]
    rw [← haV] at hbit
    simp only [c1, dge, cond_true, shrN hw (show i ≤ 64 by omega), hV, and1 hV0 (show V < 9223372036854775808 by omega), c3, Int.tdiv_eq_ediv_of_nonneg ha, Int.tmod_eq_emod_of_nonneg ha]
    rw [hbit.1, hbit.2]
    generalize a * (V / 2) / s = q at *
    generalize a * (V / 2) % s = r at *
    generalize a / s = qa at *
    generalize a % s = ra at *
    have wi : IntKind.i64.wrap ((i : Int) - 1) = (i : Int) - 1 := wrap64 (by omega) (by omega)
    rcases Int.emod_two_eq V with hb | hb
    · rw [hb]
      have x0 : 0 ≤ (2 * r) / s := Int.ediv_nonneg (by omega) (by omega)
      have x1 : (2 * r) / s ≤ 2 * r := Int.ediv_le_self _ (by omega)
      simp only [show ((0 : Int) == 1) = false from rfl, cond_false, Option.bind_some, wrap64 (z := 2 * q) (by omega) (by omega), wrap64 (z := 2 * r) (by omega) (by omega), Int.tdiv_eq_ediv_of_nonneg (show 0 ≤ 2 * r by omega), Int.tmod_eq_emod_of_nonneg (show 0 ≤ 2 * r by omega), Int.zero_mul, Int.add_zero, wi]
      rw [wrap64 (z := 2 * r / s) (by omega) (by omega), wrap64 (z := 2 * q + 2 * r / s) (by omega) (by omega)]
    · rw [hb]
      have x0 : 0 ≤ (2 * r + ra) / s := Int.ediv_nonneg (by omega) (by omega)
      have x1 : (2 * r + ra) / s ≤ 2 * r + ra := Int.ediv_le_self _ (by omega)
      simp only [show ((1 : Int) == 1) = true from rfl, cond_true, Option.bind_some, wrap64 (z := 2 * q) (by omega) (by omega), wrap64 (z := 2 * r) (by omega) (by omega), wrap64 (z := qa) (by omega) (by omega), wrap64 (z := 2 * q + qa) (by omega) (by omega), wrap64 (z := 2 * r + ra) (by omega) (by omega),
        Int.tdiv_eq_ediv_of_nonneg (show 0 ≤ 2 * r + ra by omega), Int.tmod_eq_emod_of_nonneg (show 0 ≤ 2 * r + ra by omega), Int.one_mul, wi]
      rw [wrap64 (z := (2 * r + ra) / s) (by omega) (by omega), wrap64 (z := 2 * q + qa + (2 * r + ra) / s) (by omega) (by omega)]
  · have c1 : decide ((30 : Int) - ((31 : Nat) : Int) ≥ 0) = false := by decide
    simp only [c1, cond_false]
    rw [show 31 - 31 = 0 from rfl]
    simp
end Go.Proofs.Ytoniopgegcngpaa
