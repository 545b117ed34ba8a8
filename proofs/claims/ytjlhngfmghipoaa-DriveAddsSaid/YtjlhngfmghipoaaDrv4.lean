/- The drive of a lift (layer 14): Step and Distance, of the program and of the reference. Conditions: a right motor and a valid drive. -/
import Derived.Test.YtjlhngfmghipoaaDrv3
namespace Go.Proofs.Ytjlhngfmghipoaa
open Go.Am Go.Proofs
attribute [local irreducible] br

theorem sec_valid {m : Motor} {d : Drive} (hr : right m = true) (hv : valid m d = true) : valid m (sec m d) = true := by
  have h1 := right_b hr
  have h2 := valid_b hv
  have h3 : 0 ≤ next m d ∧ next m d ≤ m.mx ∧ (d.st = 0 → next m d = 0) := by
    unfold next
    split
    · split <;> omega
    · split
      · omega
      · split <;> omega
  have hm : 0 ≤ (d.mv + next m d) % 1125899906842625 ∧ (d.mv + next m d) % 1125899906842625 ≤ 1125899906842624 := by omega
  apply valid_mk
  · simp only [sec]; split <;> omega
  · simp only [sec]; omega
  · simp only [sec]; exact hm
  · simp only [sec]; split
    · rename_i h; exact fun _ => h.2
    · exact h3.2.2
  · simp only [sec]; split <;> omega
  · simp only [sec]; split <;> omega
theorem secs_valid {m : Motor} {d : Drive} (hr : right m = true) (hv : valid m d = true) : ∀ k, valid m (secs m d k) = true
  | 0 => hv
  | k + 1 => sec_valid hr (secs_valid hr hv k)
theorem step_valid {m : Motor} {d : Drive} (hr : right m = true) (hv : valid m d = true) (n : Int) : valid m (step m d n) = true := secs_valid hr hv _

theorem tmod_of {x : Int} (h : 0 ≤ x) : Int.tmod x 1125899906842625 = x % 1125899906842625 := Int.tmod_eq_emod_of_nonneg h

theorem sec_a {m : Motor} {z : Drive} (h1 : (z.st == 2) = true) (h2 : (next m z == 0) = true) : sec m z = ⟨0, next m z, z.tg, (z.mv + next m z) % 1125899906842625⟩ := by
  simp at h1 h2
  simp [sec, h1, h2]
theorem sec_b {m : Motor} {z : Drive} (h : (z.st == 2) = false ∨ (next m z == 0) = false) : sec m z = ⟨z.st, next m z, z.tg, (z.mv + next m z) % 1125899906842625⟩ := by
  simp at h
  have : ¬ (z.st = 2 ∧ next m z = 0) := by rintro ⟨a, b⟩; rcases h with h | h <;> contradiction
  simp [sec, this]

theorem dStep_den (m : Motor) (d : Drive) (n : Int) (hr : right m = true) (hv : valid m d = true) : Den Try.prog 24 [m.av, d.av, I n] (oneD (step m d n)) := by
  refine en_dStep _ _ _ _ ?_
  rw [vc_dStep]
  have hN : ((cap n : Nat) : Int) = min (max n 0) 3600 := by unfold cap; omega
  refine LoopS.intro (fun j s => ∃ k : Nat, k ≤ cap n ∧ j = cap n - k ∧ s = ⟨[(3, .ptr 0 0), (4, .ptr 1 0), (6, .ptr 2 0), (9, I (min (max n 0) 3600)), (10, I k)], [.var 23 m.cs, .var 25 (secs m d k).cs, .var 25 zeroD.cs]⟩) (cap n) rfl ⟨0, Nat.zero_le _, rfl, rfl⟩ ?_
  rintro j s ⟨k, hk, rfl, rfl⟩
  refine ⟨10000, (vl_dStep m (secs m d k) _ k _ _).mpr ?_⟩
  have hb := Bd.of hr (secs_valid hr hv k)
  have hn := next_le hb
  have hmv := hb.mv
  refine br_intro (fun h => ?_) (fun h => ?_)
  · have hlt : k < cap n := by simp at h; omega
    have hw : IntKind.wrap IntKind.i64 ((k : Int) + 1) = ((k + 1 : Nat) : Int) := by rw [wr (by omega) (by omega)]; omega
    rw [wr (x := (secs m d k).mv + next m (secs m d k)) (by omega) (by omega), tmod_of (by omega), hw]
    refine ⟨next_den m _ hb, (by decide), br_intro (fun h1 => br_intro (fun h2 => ?_) (fun h2 => ?_)) (fun h1 => ?_)⟩
    · exact ⟨cap n - (k + 1), by omega, k + 1, by omega, rfl, by rw [show secs m d (k + 1) = sec m (secs m d k) from rfl, sec_a h1 h2]; rfl⟩
    · exact ⟨cap n - (k + 1), by omega, k + 1, by omega, rfl, by rw [show secs m d (k + 1) = sec m (secs m d k) from rfl, sec_b (.inr h2)]; rfl⟩
    · exact ⟨cap n - (k + 1), by omega, k + 1, by omega, rfl, by rw [show secs m d (k + 1) = sec m (secs m d k) from rfl, sec_b (.inl h1)]; rfl⟩
  · have : k = cap n := by simp at h; omega
    subst this
    rfl

theorem rStep_den (m : Motor) (d : Drive) (n : Int) (hr : right m = true) (hv : valid m d = true) : Den Try.prog 25 [m.av, d.av, I n] (oneD (step m d n)) := by
  refine en_rStep _ _ _ _ ?_
  rw [vc_rStep]
  have hN : ((cap n : Nat) : Int) = min (max n 0) 3600 := by unfold cap; omega
  refine LoopS.intro (fun j s => ∃ k : Nat, k ≤ cap n ∧ j = cap n - k ∧ s = ⟨[(2, I n), (3, .ptr 0 0), (4, .ptr 1 0), (6, .ptr 2 0), (7, I k)], [.var 23 m.cs, .var 25 (secs m d k).cs, .var 25 zeroD.cs]⟩) (cap n) rfl ⟨0, Nat.zero_le _, rfl, rfl⟩ ?_
  rintro j s ⟨k, hk, rfl, rfl⟩
  refine ⟨10000, (vl_rStep m (secs m d k) _ k _ _).mpr ?_⟩
  have hb := Bd.of hr (secs_valid hr hv k)
  have hn := next_le hb
  have hmv := hb.mv
  refine br_intro (fun h => ?_) (fun h => ?_)
  refine br_intro (fun h' => ?_) (fun h' => ?_)
  · have hlt : k < cap n := by have := of_decide_eq_true h; have := of_decide_eq_true h'; omega
    have hw : IntKind.wrap IntKind.i64 ((k : Int) + 1) = ((k + 1 : Nat) : Int) := by rw [wr (by omega) (by omega)]; omega
    rw [wr (x := (secs m d k).mv + next m (secs m d k)) (by omega) (by omega), tmod_of (by omega), hw]
    refine ⟨speed_den m _ hb, (by decide), br_intro (fun h1 => br_intro (fun h2 => ?_) (fun h2 => ?_)) (fun h1 => ?_)⟩
    · exact ⟨cap n - (k + 1), by omega, k + 1, by omega, rfl, by rw [show secs m d (k + 1) = sec m (secs m d k) from rfl, sec_a h1 h2]; rfl⟩
    · exact ⟨cap n - (k + 1), by omega, k + 1, by omega, rfl, by rw [show secs m d (k + 1) = sec m (secs m d k) from rfl, sec_b (.inr h2)]; rfl⟩
    · exact ⟨cap n - (k + 1), by omega, k + 1, by omega, rfl, by rw [show secs m d (k + 1) = sec m (secs m d k) from rfl, sec_b (.inl h1)]; rfl⟩
  · have : k = cap n := by have := of_decide_eq_true h; have := of_decide_eq_false h'; omega
    subst this
    rfl
  · have : k = cap n := by have := of_decide_eq_false h; omega
    subst this
    rfl

theorem dist_nn (s : Int) : ∀ (f : Nat) (v : Int), 0 ≤ dist s f v
  | 0, _ => by simp [dist]
  | f + 1, v => by
    have := dist_nn s f (v - s)
    simp only [dist]
    split <;> omega
theorem dist_zero {s v : Int} (h : v ≤ s) : ∀ f, dist s f v = 0
  | 0 => rfl
  | f + 1 => by simp only [dist]; rw [if_neg (by omega)]

theorem dDist_den (m : Motor) (d : Drive) (hr : right m = true) (hv : valid m d = true) : Den Try.prog 26 [m.av, d.av] (I (distance m d)) := by
  have h1 := right_b hr
  have h2 := valid_b hv
  refine en_dDist _ _ _ ?_
  rw [vc_dDist]
  refine ⟨dEmer_den m d, ?_⟩
  refine LoopS.intro (fun j s => ∃ (z : Drive) (f : Nat) (k : Int), j = z.sp.toNat ∧ z.st = 3 ∧ z.tg = 0 ∧ z.mv = d.mv ∧ 0 ≤ z.sp ∧ z.sp ≤ 12000 ∧ z.sp ≤ 50 * f ∧ f ≤ 300 ∧ 0 ≤ k ∧ k ≤ 12000 * (300 - f) ∧ k + dist m.st f z.sp = distance m d ∧
      s = ⟨[(2, .ptr 0 0), (3, .ptr 1 0), (5, I k)], [.var 23 m.cs, .var 25 z.cs]⟩) d.sp.toNat rfl
    ⟨emer d, 300, 0, rfl, rfl, rfl, rfl, h2.2.2.1, by simp only [emer]; omega, by simp only [emer]; omega, Nat.le_refl _, by omega, by omega, by simp [distance, emer], rfl⟩ ?_
  rintro j s ⟨z, f, k, rfl, z1, z2, z3, z4, z5, z6, f1, k1, k2, hd, rfl⟩
  refine ⟨10000, (vl_dDist m z k _ _).mpr ?_⟩
  refine br_intro (fun h => br_intro (fun h' => ?_) (fun h' => ?_)) (fun h => ?_)
  · have hsp : 0 < z.sp := by simpa using h
    have hb : Bd m z := ⟨hr, ⟨z4, z5⟩, by omega, by rw [z3]; omega⟩
    have hn : next m z = max (z.sp - m.st) 0 := by simp [next, z1]
    refine ⟨next_den m z hb, ?_⟩
    rw [hn, wr (by omega) (by omega)]
    obtain ⟨f, rfl⟩ : ∃ g, f = g + 1 := ⟨f - 1, by omega⟩
    simp only [dist] at hd
    refine ⟨(max (z.sp - m.st) 0).toNat, by omega, ⟨z.st, max (z.sp - m.st) 0, z.tg, z.mv⟩, f, k + max (z.sp - m.st) 0, rfl, z1, z2, z3, by simp only; omega, by simp only; omega, by simp only; omega, by omega, by omega, by omega, ?_, rfl⟩
    simp only
    split at hd
    · rename_i hgt
      rw [show max (z.sp - m.st) 0 = z.sp - m.st by omega]; omega
    · rw [dist_zero (by omega)]; omega
  · simp at h'; omega
  · have : z.sp ≤ 0 := by simpa using h
    rw [dist_zero (by omega)] at hd
    rw [← hd, Int.add_zero]

theorem rDist_den (m : Motor) (d : Drive) (hr : right m = true) (hv : valid m d = true) : Den Try.prog 27 [m.av, d.av] (I (distance m d)) := by
  have h1 := right_b hr
  have h2 := valid_b hv
  refine en_rDist _ _ _ ?_
  rw [vc_rDist, wr (by omega) (by omega)]
  refine LoopS.intro (fun j s => ∃ (v : Int) (f : Nat) (k : Int), j = v.toNat ∧ -5000 ≤ v ∧ v ≤ 12000 ∧ v ≤ 50 * f ∧ f ≤ 300 ∧ 0 ≤ k ∧ k ≤ 12000 * (300 - f) ∧ k + (if v > 0 then v + dist m.st f v else 0) = distance m d ∧
      s = ⟨[(2, .ptr 0 0), (5, I k), (6, I v)], [.var 23 m.cs]⟩) (d.sp - m.st).toNat rfl
    ⟨d.sp - m.st, 299, 0, rfl, by omega, by omega, by omega, by omega, by omega, by omega, by rw [Int.zero_add]; rfl, rfl⟩ ?_
  rintro j s ⟨v, f, k, rfl, z4, z5, z6, f1, k1, k2, hd, rfl⟩
  refine ⟨10000, (vl_rDist m k v _ _).mpr ?_⟩
  refine br_intro (fun h => ?_) (fun h => ?_)
  · have hsp : 0 < v := by simpa using h
    rw [wr (by omega) (by omega), wr (by omega) (by omega)]
    obtain ⟨f, rfl⟩ : ∃ g, f = g + 1 := ⟨f - 1, by omega⟩
    rw [if_pos hsp] at hd
    simp only [dist] at hd
    refine ⟨(v - m.st).toNat, by omega, v - m.st, f, k + v, rfl, by omega, by omega, by omega, by omega, by omega, by omega, ?_, rfl⟩
    split at hd
    · rename_i hgt; rw [if_pos hgt]; omega
    · rename_i hgt; rw [if_neg hgt]; omega
  · have : ¬ v > 0 := by simpa using h
    rw [if_neg this] at hd
    rw [← hd, Int.add_zero]

theorem lfar_den (a b : Drive) (ha : 0 ≤ a.mv ∧ a.mv ≤ 1125899906842624) (hb : 0 ≤ b.mv ∧ b.mv ≤ 1125899906842624) : Den Try.prog 28 [a.av, b.av] (I (far a b)) := by
  refine en_lfar _ _ _ ?_
  rw [vc_lfar, wr (x := b.mv - a.mv) (by omega) (by omega)]
  refine br_intro (fun h => ?_) (fun h => ?_)
  · have h' : b.mv - a.mv < 0 := by simpa using h
    rw [wr (x := b.mv - a.mv + 1125899906842624) (by omega) (by omega), wr (by omega) (by omega)]
    simp only [far, h', if_true]
    rw [show b.mv - a.mv + 1125899906842624 + 1 = b.mv - a.mv + 1125899906842625 by omega]
  · have h' : ¬ b.mv - a.mv < 0 := by simpa using h
    simp only [far, h', if_false]

theorem alive_den : Den Try.prog 10 [] (Bo true) := by
  refine en_alive _ ?_
  rw [vc_alive]
  have r : right ⟨5000, 400, 500, 1500⟩ = true := by decide
  refine ⟨motor_den, dStart_den ⟨5000, 400, 500, 1500⟩ ⟨0, 0, 0, 0⟩ 1000, dStep_den ⟨5000, 400, 500, 1500⟩ ⟨1, 0, 1000, 0⟩ 3 r (by decide), dHalt_den ⟨5000, 400, 500, 1500⟩ ⟨1, 1000, 1000, 2200⟩,
    dStep_den ⟨5000, 400, 500, 1500⟩ ⟨2, 1000, 0, 2200⟩ 2 r (by decide), dEmer_den ⟨5000, 400, 500, 1500⟩ ⟨1, 5000, 5000, 0⟩, dStep_den ⟨5000, 400, 500, 1500⟩ ⟨3, 5000, 0, 0⟩ 4 r (by decide), dReset_den ⟨5000, 400, 500, 1500⟩ ⟨3, 0, 0, 6000⟩,
    dEmer_den ⟨5000, 400, 500, 1500⟩ ⟨1, 5000, 5000, 0⟩, dStep_den ⟨5000, 400, 500, 1500⟩ ⟨3, 5000, 0, 0⟩ 3 r (by decide), dReset_den ⟨5000, 400, 500, 1500⟩ ⟨3, 500, 0, 6000⟩, dRight_den ⟨5000, 400, 500, 1500⟩,
    dValid_den ⟨5000, 400, 500, 1500⟩ ⟨1, 5000, 5000, 0⟩, dValid_den ⟨5000, 400, 500, 1500⟩ ⟨0, 1, 0, 0⟩, dDist_den ⟨5000, 400, 500, 1500⟩ ⟨1, 5000, 5000, 0⟩ r (by decide), rfl⟩
end Go.Proofs.Ytjlhngfmghipoaa
