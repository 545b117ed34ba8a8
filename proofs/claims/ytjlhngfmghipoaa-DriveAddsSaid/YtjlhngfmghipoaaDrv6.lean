/- The drive of a lift (layer 14): the laws DriveStops, DriveTargets and DriveAdds, from the plain functions. No condition. -/
import Derived.Test.YtjlhngfmghipoaaDrv5
import Derived.Test.YtjlhngfmghipoaaAme
namespace Go.Proofs.Ytjlhngfmghipoaa
open Go.Am Go.Proofs
attribute [local irreducible] br

theorem secs_add (m : Motor) (d : Drive) (a : Nat) : ∀ b, secs m (secs m d a) b = secs m d (a + b)
  | 0 => rfl
  | b + 1 => by rw [show a + (b + 1) = (a + b) + 1 from rfl]; simp only [secs]; rw [secs_add m d a b]
theorem step_cap (m : Motor) (d : Drive) (n : Int) : step m d (min (max n 0) 3600) = step m d n := by
  unfold step
  rw [show cap (min (max n 0) 3600) = cap n by unfold cap; omega]
theorem step_0 (m : Motor) (d : Drive) : step m d 0 = d := rfl
theorem step_1 (m : Motor) (d : Drive) : step m d 1 = sec m d := rfl

theorem ty_pair {av : AV} (h : TyV Try.prog 38 av) : ∃ x y, av = .agg [I x, I y] := by
  obtain ⟨ts, hc, rfl⟩ := h.agg (n := 3) (by kernel_rfl) (cs := [.i .i64, .i .i64]) (by kernel_rfl)
  obtain ⟨_, _, rfl, ⟨x, rfl, _⟩, _, _, rfl, ⟨y, rfl, _⟩, rfl⟩ := hc
  exact ⟨x, y, rfl⟩
theorem adds_den (avs : List AV) (h : TyVs Try.prog [23, 25, 38] avs) : Den Try.prog 8 avs (Bo true) := by
  obtain ⟨a, b, c, rfl, ha, hb, hc⟩ := ty3 h
  obtain ⟨m, rfl⟩ := ty_motor ha
  obtain ⟨d, rfl⟩ := ty_drive hb
  obtain ⟨x, y, rfl⟩ := ty_pair hc
  refine en_adds m d x y _ ?_
  rw [vc_adds]
  refine ⟨alive_den, lvalid_den m d, br_intro (fun _ => rfl) (fun hv => ?_)⟩
  simp only [Bool.not_eq_false', Bool.and_eq_true] at hv
  obtain ⟨hr, hv⟩ := hv
  rw [step_cap, wr (x := min (max x 0) 3600 + min (max y 0) 3600) (by omega) (by omega)]
  have s1 : Den Try.prog 24 [m.av, d.av, I (min (max x 0) 3600)] (oneD (step m d x)) := by
    have := dStep_den m d (min (max x 0) 3600) hr hv
    rw [step_cap] at this
    exact this
  refine ⟨⟨.mk 0, .mk 1⟩, ⟨.mk 1, .mk 0⟩, ⟨.mk 0, .mk 1⟩, dStep_den m d x hr hv, s1, ?_⟩
  simp only [beq_self_eq_true, Bool.and_self, Bool.not_true, br_false, step_0]
  refine ⟨dStep_den m d 0 hr hv, br_intro (fun _ => trivial) (fun hs => ⟨s1, dStep_den m _ _ hr (step_valid hr hv _), dStep_den m d _ hr hv, ?_⟩)⟩
  have hs := of_decide_eq_false hs
  have e : step m (step m d x) (min (max y 0) 3600) = step m d (min (max x 0) 3600 + min (max y 0) 3600) := by
    rw [step_cap]
    unfold step
    rw [secs_add]
    rw [show cap (min (max x 0) 3600 + min (max y 0) 3600) = cap x + cap y by unfold cap; omega]
  rw [e]
  simp

/-- a drive that slows -/
theorem slow_run {m : Motor} {z : Drive} (hr : right m = true) (h1 : z.st = 2) (h2 : 0 ≤ z.sp) (h3 : z.sp ≤ 12000) : ∀ k : Nat,
    ((secs m z k).st = 2 ∧ (0 < k → 0 < (secs m z k).sp) ∧ 0 ≤ (secs m z k).sp ∧ (secs m z k).sp ≤ max (12000 - 50 * k) 0) ∨ ((secs m z k).st = 0 ∧ (secs m z k).sp = 0)
  | 0 => .inl ⟨h1, fun h => absurd h (Nat.lt_irrefl _), h2, by simp only [secs]; omega⟩
  | k + 1 => by
    have hb := right_b hr
    simp only [secs]
    generalize hy : secs m z k = y
    have ih := slow_run hr h1 h2 h3 k
    rw [hy] at ih
    rcases ih with ⟨a, b, c, e⟩ | ⟨a, b⟩
    · have hn : next m y = max (y.sp - m.dn) 0 := by simp [next, a]
      by_cases h0 : next m y = 0
      · right; simp [sec, a, h0]
      · left
        simp only [sec, a, h0, and_false, if_false]
        refine ⟨trivial, fun _ => ?_, ?_, ?_⟩ <;> omega
    · right
      have hn : next m y = 0 := by simp [next, a, b]
      simp [sec, a, hn]

/-- an emergency stop -/
theorem emer_run {m : Motor} {d : Drive} (hr : right m = true) (hv : valid m d = true) : ∀ k : Nat, k ≤ 300 → ∃ S : Int,
    (secs m (emer d) k).st = 3 ∧ (secs m (emer d) k).tg = 0 ∧ 0 ≤ (secs m (emer d) k).sp ∧ (secs m (emer d) k).sp ≤ max (12000 - 50 * k) 0 ∧
    (secs m (emer d) k).mv = (d.mv + S) % 1125899906842625 ∧ 0 ≤ S ∧ S ≤ 12000 * k ∧ S + dist m.st (300 - k) (secs m (emer d) k).sp = distance m d
  | 0, _ => by
    have hb := right_b hr
    have hd := valid_b hv
    refine ⟨0, rfl, rfl, hd.2.2.1, by simp only [secs, emer]; omega, by simp only [secs, emer]; omega, by omega, by omega, ?_⟩
    rw [Int.zero_add]
    rfl
  | k + 1, hk => by
    have hb := right_b hr
    have hd := valid_b hv
    obtain ⟨S, a1, a2, a3, a4, a5, a6, a7, a8⟩ := emer_run hr hv k (by omega)
    simp only [secs]
    generalize hy : secs m (emer d) k = y at a1 a2 a3 a4 a5 a8
    have hn : next m y = max (y.sp - m.st) 0 := by simp [next, a1]
    refine ⟨S + next m y, by simp [sec, a1], a2, by simp only [sec]; omega, by simp only [sec]; omega, ?_, by omega, by omega, ?_⟩
    · simp only [sec, a5]; omega
    · simp only [sec]
      rw [show 300 - k = (300 - (k + 1)) + 1 by omega] at a8
      simp only [dist] at a8
      split at a8
      · rename_i hgt
        rw [hn, show max (y.sp - m.st) 0 = y.sp - m.st by omega]; omega
      · rw [dist_zero (by omega)]; omega
theorem dist_pos {s v : Int} (h : v > s) (f : Nat) : 0 < dist s (f + 1) v := by
  simp only [dist]
  rw [if_pos (by omega)]
  have := dist_nn s f (v - s)
  omega
theorem emer_valid {m : Motor} {d : Drive} (hv : valid m d = true) : valid m (emer d) = true := by
  have hd := valid_b hv
  apply valid_mk <;> simp only [emer] <;> (try intro h) <;> first | omega | trivial
theorem halt_valid {m : Motor} {d : Drive} (hv : valid m d = true) : valid m (halt d) = true := by
  have hd := valid_b hv
  unfold halt
  split
  · apply valid_mk <;> simp only <;> (try intro h) <;> first | omega | trivial
  · exact hv
theorem mv_b {m : Motor} {d : Drive} (hv : valid m d = true) : 0 ≤ d.mv ∧ d.mv ≤ 1125899906842624 := by
  have hd := valid_b hv
  omega

theorem stops_den (avs : List AV) (h : TyVs Try.prog [23, 25, 3] avs) : Den Try.prog 6 avs (Bo true) := by
  obtain ⟨a, b, c, rfl, ha, hb, hc⟩ := ty3 h
  obtain ⟨m, rfl⟩ := ty_motor ha
  obtain ⟨d, rfl⟩ := ty_drive hb
  obtain ⟨n, rfl, _⟩ := ty_int hc
  refine en_stops m d n _ ?_
  rw [vc_stops]
  refine ⟨alive_den, lvalid_den m d, br_intro (fun _ => rfl) (fun hv => ?_)⟩
  simp only [Bool.not_eq_false', Bool.and_eq_true] at hv
  obtain ⟨hr, hv⟩ := hv
  refine br_intro (fun _ => rfl) (fun hn => ⟨dEmer_den m d, dDist_den m d hr hv, ?_⟩)
  have hn := of_decide_eq_false hn
  have hb := right_b hr
  have hd := valid_b hv
  have hx := emer_valid hv
  -- what follows the loop
  have hend : Den Try.prog 24 [m.av, (emer d).av, I 240] (oneD (step m (emer d) 240)) ∧
      br ((step m (emer d) 240).sp == (0 : Int)) (Den Try.prog 28 [(emer d).av, (step m (emer d) 240).av] (I (far (emer d) (step m (emer d) 240))) ∧
        br (far (emer d) (step m (emer d) 240) == distance m d) (some (Bo (decide (d.sp ≤ m.mx))) = some (Bo true)) (some (Bo false) = some (Bo true))) (some (Bo false) = some (Bo true)) := by
    refine ⟨dStep_den m _ _ hr hx, ?_⟩
    obtain ⟨S, a1, a2, a3, a4, a5, a6, a7, a8⟩ := emer_run hr hv 240 (by omega)
    have hs : step m (emer d) 240 = secs m (emer d) 240 := rfl
    rw [hs]
    have hvv := secs_valid hr hx 240
    generalize secs m (emer d) 240 = y at a1 a2 a3 a4 a5 a8 hvv
    have h0 : y.sp = 0 := by omega
    rw [dist_zero (by omega)] at a8
    have hf : far (emer d) y = distance m d := by
      unfold far
      simp only [emer, a5]
      split <;> omega
    refine br_intro (fun _ => ⟨lfar_den _ _ (mv_b hx) (mv_b hvv), ?_⟩) (fun h => by rw [h0] at h; exact absurd h (by decide))
    rw [hf]
    exact br_intro (fun _ => by simp [hd.2.2.2.1]) (fun h => by simp at h)
  refine LoopS.intro (fun j s => ∃ k : Nat, k ≤ 300 ∧ (k : Int) ≤ n ∧ j = 300 - k ∧ s = ⟨[(2, I n), (3, .ptr 0 0), (4, .ptr 1 0), (7, .ptr 2 0), (8, I (distance m d)), (9, .ptr 3 0), (10, I k)], [.var 23 m.cs, .var 25 d.cs, .var 25 (emer d).cs, .var 25 (secs m (emer d) k).cs]⟩) 300 rfl ⟨0, by omega, by omega, rfl, rfl⟩ ?_
  rintro j s ⟨k, hk, hkn, rfl, rfl⟩
  refine ⟨10000, (vl_stops m d (emer d) (secs m (emer d) k) n k (distance m d) _ _).mpr ?_⟩
  refine br_intro (fun h => br_intro (fun h' => ?_) (fun h' => hend)) (fun h => hend)
  have h := of_decide_eq_true h
  have h' := of_decide_eq_true h'
  have hzv := secs_valid hr hx k
  have hyv := secs_valid hr hx (k + 1)
  have hw : IntKind.wrap IntKind.i64 ((k : Int) + 1) = ((k + 1 : Nat) : Int) := by rw [wr (by omega) (by omega)]; omega
  obtain ⟨S, a1, a2, a3, a4, a5, a6, a7, a8⟩ := emer_run hr hv (k + 1) (by omega)
  obtain ⟨S', b1, b2, b3, b4, b5, b6, b7, b8⟩ := emer_run hr hv k (by omega)
  have hI : (secs m (emer d) (k + 1)).sp ≤ (secs m (emer d) k).sp := by
    simp only [secs, sec]
    have : next m (secs m (emer d) k) = max ((secs m (emer d) k).sp - m.st) 0 := by simp [next, b1]
    omega
  have hst := dStep_den m _ 1 hr hzv
  rw [show step m (secs m (emer d) k) 1 = secs m (emer d) (k + 1) from rfl] at hst ⊢
  rw [hw]
  have hN : ∀ y : Drive, y = secs m (emer d) (k + 1) → ∃ j, j < 300 - k ∧ ∃ k' : Nat, k' ≤ 300 ∧ (k' : Int) ≤ n ∧ j = 300 - k' ∧ (⟨[(2, I n), (3, .ptr 0 0), (4, .ptr 1 0), (7, .ptr 2 0), (8, I (distance m d)), (9, .ptr 3 0), (10, I ((k + 1 : Nat) : Int))], [.var 23 m.cs, .var 25 d.cs, .var 25 (emer d).cs, .var 25 y.cs]⟩ : St) = ⟨[(2, I n), (3, .ptr 0 0), (4, .ptr 1 0), (7, .ptr 2 0), (8, I (distance m d)), (9, .ptr 3 0), (10, I k')], [.var 23 m.cs, .var 25 d.cs, .var 25 (emer d).cs, .var 25 (secs m (emer d) k').cs]⟩ :=
    fun y hy => ⟨300 - (k + 1), by omega, k + 1, by omega, by omega, rfl, by rw [hy]⟩
  generalize hz : secs m (emer d) k = z at *
  generalize hy : secs m (emer d) (k + 1) = y at *
  have hf : far (emer d) y = S := by
    unfold far
    simp only [emer, a5]
    split <;> omega
  have hfd := lfar_den _ _ (mv_b hx) (mv_b hyv)
  rw [hf] at hfd ⊢
  have hq : S = distance m d ↔ y.sp ≤ m.st := by
    constructor
    · intro he
      rcases Nat.lt_or_ge k 299 with hk2 | hk2
      · apply Classical.byContradiction
        intro hgt
        have := dist_pos (s := m.st) (v := y.sp) (by omega) (300 - (k + 1) - 1)
        rw [show 300 - (k + 1) - 1 + 1 = 300 - (k + 1) by omega] at this
        omega
      · omega
    · intro hle
      rw [dist_zero hle] at a8
      omega
  have hnn := dist_nn m.st (300 - (k + 1)) y.sp
  refine ⟨hst, ?_⟩
  refine br_intro (fun h => by simp [a1] at h) (fun _ => ?_)
  refine br_intro (fun h => by simp [a2] at h) (fun _ => ?_)
  refine br_intro (fun h => absurd (of_decide_eq_true h) (by omega)) (fun _ => ?_)
  refine br_intro (fun h => absurd (of_decide_eq_true h) (by omega)) (fun _ => ⟨hfd, ?_⟩)
  refine br_intro (fun h => absurd (of_decide_eq_true h) (by omega)) (fun _ => ⟨hfd, ?_⟩)
  refine br_intro (fun h0 => ?_) (fun h0 => ?_)
  · have h0 : y.sp = 0 := by simpa using h0
    have : S = distance m d := hq.2 (by omega)
    refine br_intro (fun h => ?_) (fun _ => hN y rfl)
    rw [this] at h
    simp at h
  · refine br_intro (fun h => ?_) (fun _ => hN y rfl)
    exfalso
    by_cases hle : y.sp ≤ m.st
    · have := hq.2 hle
      simp [this, hle] at h
    · have : ¬ S = distance m d := fun e => hle (hq.1 e)
      simp [this, hle] at h

theorem targets_den (avs : List AV) (h : TyVs Try.prog [23, 25] avs) : Den Try.prog 7 avs (Bo true) := by
  obtain ⟨a, b, rfl, ha, hb⟩ := ty2 h
  obtain ⟨m, rfl⟩ := ty_motor ha
  obtain ⟨d, rfl⟩ := ty_drive hb
  refine en_targets m d _ ?_
  rw [vc_targets]
  refine ⟨alive_den, lvalid_den m d, br_intro (fun _ => rfl) (fun hv => ?_)⟩
  simp only [Bool.not_eq_false', Bool.and_eq_true] at hv
  obtain ⟨hr, hv⟩ := hv
  have hb := right_b hr
  have hd := valid_b hv
  have hst := dStep_den m d 1 hr hv
  rw [step_1] at hst ⊢
  have hxv := sec_valid hr hv
  have hfd := lfar_den d (sec m d) (mv_b hv) (mv_b hxv)
  have x1 : (sec m d).sp = next m d := rfl
  have x2 : (sec m d).tg = d.tg := rfl
  have x3 : (sec m d).mv = (d.mv + next m d) % 1125899906842625 := rfl
  have x4 : d.st ≠ 2 → (sec m d).st = d.st := fun h => by simp [sec, h]
  have hx := valid_b hxv
  have n1 : d.st = 1 → d.sp < d.tg → next m d = min (d.sp + m.up) d.tg := fun h1 h2 => by simp [next, h1, h2]
  have n2 : d.st = 1 → ¬ d.sp < d.tg → next m d = max (d.sp - m.dn) d.tg := fun h1 h2 => by simp [next, h1, h2]
  have n0 : d.st = 0 → next m d = d.sp := fun h1 => by simp [next, h1]
  have hf : far d (sec m d) = (sec m d).sp := by
    unfold far
    rw [x3, x1]
    rw [x1] at hx
    split <;> omega
  have hh := halt_valid hv
  have htail : br (d.st == (0 : Int)) (some (Bo ((sec m d).st == d.st && ((sec m d).sp == d.sp && ((sec m d).tg == d.tg && ((sec m d).mv == d.mv && true))))) = some (Bo true))
      (Den Try.prog 20 [m.av, d.av] (oneD (halt d)) ∧ Den Try.prog 24 [m.av, (halt d).av, I 240] (oneD (step m (halt d) 240)) ∧
        br (d.st == (3 : Int)) (br ((step m (halt d) 240).sp == (0 : Int)) (Den Try.prog 28 [d.av, (sec m d).av] (I (far d (sec m d))) ∧ some (Bo (far d (sec m d) == (sec m d).sp)) = some (Bo true)) (some (Bo false) = some (Bo true)))
          (br ((step m (halt d) 240).st == (0 : Int)) (br ((step m (halt d) 240).sp == (0 : Int)) (Den Try.prog 28 [d.av, (sec m d).av] (I (far d (sec m d))) ∧ some (Bo (far d (sec m d) == (sec m d).sp)) = some (Bo true)) (some (Bo false) = some (Bo true))) (some (Bo false) = some (Bo true)))) := by
    refine br_intro (fun h0 => ?_) (fun h0 => ⟨dHalt_den m d, dStep_den m _ _ hr hh, br_intro (fun h3 => ?_) (fun h3 => ?_)⟩)
    · have h0 : d.st = 0 := by simpa using h0
      have e1 := x4 (by omega)
      have e2 := n0 h0
      have e3 : d.sp = 0 := hd.2.2.2.2.2.2.1 h0
      have e4 : (sec m d).mv = d.mv := by rw [x3]; omega
      rw [e1, x1, x2, e4, e2]
      simp
    · have h3 : d.st = 3 := by simpa using h3
      have e : halt d = emer d := by
        have ht : d.tg = 0 := hd.2.2.2.2.2.2.2.2 (by omega)
        have he : halt d = d := by simp [halt, h3]
        rw [he]
        unfold emer
        rw [← h3, ← ht]
      obtain ⟨S, a1, a2, a3, a4, _⟩ := emer_run hr hv 240 (by omega)
      have h0 : (step m (halt d) 240).sp = 0 := by rw [e]; show (secs m (emer d) 240).sp = 0; omega
      rw [h0, hf]
      simp only [beq_self_eq_true, br_true]
      rw [hf] at hfd
      exact ⟨hfd, trivial⟩
    · have h0 : ¬ d.st = 0 := by simpa using h0
      have h3 : ¬ d.st = 3 := by simpa using h3
      have hs : (halt d).st = 2 ∧ (halt d).sp = d.sp := by
        unfold halt
        split
        · exact ⟨rfl, rfl⟩
        · exact ⟨by omega, rfl⟩
      have hrun := slow_run hr hs.1 (by omega) (by omega) 240
      have hq : (step m (halt d) 240).st = 0 ∧ (step m (halt d) 240).sp = 0 := by
        rcases hrun with ⟨_, q2, _, q4⟩ | q
        · have := q2 (by omega); omega
        · exact q
      rw [hq.1, hq.2, hf]
      simp only [beq_self_eq_true, br_true]
      rw [hf] at hfd
      exact ⟨hfd, trivial⟩
  refine ⟨hst, br_intro (fun h1 => ?_) (fun h1 => htail)⟩
  simp only [Motor.av, Drive.av, oneD] at htail
  have h1 : d.st = 1 := by simpa using h1
  have ht := hd.2.2.2.2.2.2.2.1 h1
  rw [x4 (by omega)] at htail ⊢
  have n1 := n1 h1
  have n2 := n2 h1
  rw [x1, x2] at hx
  rw [x1, x2, wr (x := next m d - d.tg) (by omega) (by omega), wr (x := d.tg - next m d) (by omega) (by omega), wr (x := d.sp - d.tg) (by omega) (by omega), wr (x := d.tg - d.sp) (by omega) (by omega)]
  rw [x1, x2] at htail
  refine br_intro (fun h => by simp [h1] at h) (fun _ => ?_)
  refine br_intro (fun h => by simp at h) (fun _ => ?_)
  refine br_intro (fun h => absurd (of_decide_eq_true h) (by omega)) (fun _ => ?_)
  refine br_intro (fun he => ?_) (fun he => ?_)
  · have he : max (next m d - d.tg) (d.tg - next m d) = max (d.sp - d.tg) (d.tg - d.sp) := by simpa using he
    refine br_intro (fun h => ?_) (fun _ => ?_)
    · have h : ¬ max (d.sp - d.tg) (d.tg - d.sp) = 0 := by simpa using h
      omega
    refine br_intro (fun h2 => ?_) (fun _ => htail)
    refine br_intro (fun h3 => ?_) (fun _ => htail)
    have h3 : ¬ max (next m d - d.tg) (d.tg - next m d) = 0 := by simpa using h3
    omega
  · refine br_intro (fun h2 => ?_) (fun _ => htail)
    refine br_intro (fun h3 => ?_) (fun _ => htail)
    have h3 : ¬ max (next m d - d.tg) (d.tg - next m d) = 0 := by simpa using h3
    exfalso
    by_cases hlt : d.sp < d.tg
    · have : next m d < d.tg := by omega
      simp [hlt, this] at h2
    · have : ¬ next m d < d.tg := by omega
      simp [hlt, this] at h2
end Go.Proofs.Ytjlhngfmghipoaa
