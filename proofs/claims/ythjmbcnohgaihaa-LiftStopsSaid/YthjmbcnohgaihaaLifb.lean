/- The lift: Do is the plain function doS (2). No condition. -/
import Derived.Test.YthjmbcnohgaihaaLif9
namespace Go.Proofs.Ythjmbcnohgaihaa
open Go.Cm Go.Proofs
theorem el_eq {α β : Type} (x : Option (α ⊕ β)) : el x = x := by
  cases x with
  | none => rfl
  | some r => cases r <;> rfl
section
variable {N : Nat} (hN : 1000 < N)
include hN
theorem guardK_eq {b : Int} {s : LiftState} (h : OkB b s) {β : Type} (K : LiftState → Option β) : guardK N s K = K (guardS s) := by
  obtain ⟨_, _, _, f4, f5, _⟩ := id h.fit
  have g1 := guard1_ok h
  have c := h.chn.len
  unfold guardK
  rw [Ch.expire_eq hN (show s.Chain.Contacts.length ≤ 1000 by omega), Option.bind_some, people_eq hN h.line f5]
  simp only [Option.bind_some, cond_and]
  have e1 : (bif s.Mode == 3 && peopleS s.Line == 0 then some (LiftState.mk s.Lift s.Motor s.Drive s.Brakes (Ch.expS s.Chain s.Time) s.Wind s.Line s.Queue s.Checks s.Time (0 : Int) s.Up s.Off)
        else some (LiftState.mk s.Lift s.Motor s.Drive s.Brakes (Ch.expS s.Chain s.Time) s.Wind s.Line s.Queue s.Checks s.Time s.Mode s.Up s.Off)) = some (guard1 s) := by
    unfold guard1
    cases (s.Mode == 3 && peopleS s.Line == 0) <;> rfl
  rw [e1, Option.bind_some]
  show _ = K (guard2 (guard1 s))
  generalize guard1 s = r at g1 ⊢
  unfold guard2
  cases (r.Drive.State != 1) with
  | true => rfl
  | false =>
    simp only [cond_false]
    cases (r.Mode == 0) with
    | true => rw [cond_true, cond_true, halt_eq]; rfl
    | false =>
      rw [cond_false, cond_false, may_eq hN g1, Option.bind_some]
      cases (mayS r == 0) with
      | true => rfl
      | false =>
        simp only [cond_false, halt_eq]
        cases (mayS r == 13) with
        | true => rfl
        | false =>
          cases (mayS r == 14) with
          | true => rfl
          | false => rfl
theorem finF_eq {b : Int} {s : LiftState} (h : OkB b s) {e : LiftEvent} (hk : e.Kind ≠ 1) : finF N e s = some (guardS s, 0) := by
  unfold finF
  have : (e.Kind != 1) = true := by rw [bne_iff_ne]; exact hk
  rw [this, cond_true, guardK_eq hN h]
  rfl
omit hN in
theorem finF_one {s : LiftState} {e : LiftEvent} (hk : e.Kind = 1) : finF N e s = some (s, 0) := by
  unfold finF
  rw [hk]
  rfl
theorem finE_eq {b : Int} {s : LiftState} {z : Int} (h : z = 0 → OkB b s) {e : LiftEvent} (hk : e.Kind ≠ 1) : finE N e (z, s) = some (bif z != 0 then (z_LiftState, z) else (guardS s, 0)) := by
  unfold finE
  cases hz : z != 0 with
  | true => rfl
  | false =>
    rw [bne_eq_false_iff_eq] at hz
    rw [cond_false, cond_false]
    exact finF_eq hN (h hz) hk
/-! a second -/
theorem tickB_eq {b : Int} (hb : b ≤ 1125899906852224) {s : LiftState} (h : OkB b s) (ht : s.Time + 1 ≤ 20000000) {n : Int} {k : Nat} (hk : (k : Int) < n) (hn : n ≤ 600) : tickB N n ((k : Int), s) = some (Sum.inl (((k + 1 : Nat) : Int), guardS (second2 s))) := by
  obtain ⟨f1, f2, f3, f4, f5, f6⟩ := id h.fit
  have st := (step_eq hN f1 h.drv).1
  have sp := speed_ok h
  have t := h.time
  have s2 := second2_ok h ht
  have s1 := second1_ok h ht
  have u := h.up
  have o := h.off
  have u1 := s1.up
  have o1 := s1.off
  have o1' : s.Off + leftR s.Line (stepD s.Motor s.Drive).Speed s.Line.Load.length ≤ b := o1.2
  have o1'' : 0 ≤ s.Off + leftR s.Line (stepD s.Motor s.Drive).Speed s.Line.Load.length := o1.1
  have ssp := h.line.spc
  unfold tickB
  have c1 : decide ((k : Int) < n) = true := by rw [decide_eq_true_eq]; exact hk
  simp only [c1, cond_true, st, Option.bind_some, move_eq hN h.line f5 sp.1 (show (stepD s.Motor s.Drive).Speed ≤ s.Line.Spacing by omega), bne_self_eq_false, cond_false, cond_and, wrapC (show k < 9223372036854775807 by omega), wrap64 (z := s.Off + leftR s.Line (stepD s.Motor s.Drive).Speed s.Line.Load.length) (by omega) (by omega)]
  have e1 : mkS s (stepD s.Motor s.Drive) (moveR s.Line (stepD s.Motor s.Drive).Speed) s.Queue s.Up (s.Off + leftR s.Line (stepD s.Motor s.Drive).Speed s.Line.Load.length) = second1 s := by
    unfold mkS
    rw [wrap64 (by omega) (by omega)]
    rfl
  unfold second2 at s2 ⊢
  have e0 : (decide (passR s.Line (stepD s.Motor s.Drive).Speed s.Line.Load.length ≥ 0) && s.Mode == 1) = (decide (passS s ≥ 0) && s.Mode == 1) := rfl
  rw [e0]
  cases hc : (decide (passS s ≥ 0) && s.Mode == 1) with
  | false =>
    rw [hc, cond_false] at s2
    simp only [cond_false, Option.bind_some, e1, Sum.elim_inl]
    exact guardK_eq hN s2 _
  | true =>
    rw [hc, cond_true] at s2
    rw [Bool.and_eq_true, decide_eq_true_eq] at hc
    obtain ⟨i, e, a, p1, p2, p3⟩ := pass_idx h hc.1
    obtain ⟨q1, q2, q3, q4⟩ := seat_ok h.que f4 f5
    have hi : i < (moveR s.Line (stepD s.Motor s.Drive).Speed).Load.length := by
      show i < (ldsR s.Line _).length
      rw [ldsR_len]
      exact a
    have le := load_eq (N := N) (move_ok h.line sp.1 (by omega)) f5 hi q3 q4 p1 p2 p3
    have e' : passR s.Line (stepD s.Motor s.Drive).Speed s.Line.Load.length = (i : Int) := e
    simp only [cond_true, seat_ex hN h.que f4 f5, Option.bind_some, bne_self_eq_false, cond_false, e', le, wrap64 (z := s.Up + (seatS s.Queue s.Lift.Seats).2) (by omega) (by omega), Sum.elim_inl, e, Int.toNat_natCast]
    rw [e, Int.toNat_natCast] at s2
    have e2 : mkS s (stepD s.Motor s.Drive) (setR (moveR s.Line (stepD s.Motor s.Drive).Speed) i (seatS s.Queue s.Lift.Seats).2) (seatS s.Queue s.Lift.Seats).1 (s.Up + (seatS s.Queue s.Lift.Seats).2) (s.Off + leftR s.Line (stepD s.Motor s.Drive).Speed s.Line.Load.length) = boardS (second1 s) i := by
      unfold mkS
      rw [wrap64 (by omega) (by omega)]
      rfl
    rw [e2]
    exact guardK_eq hN s2 _
theorem ticks_eq {s : LiftState} (h : Ok s) {n : Int} (h1 : 1 ≤ n) (h2 : n ≤ 600) (ht : s.Time + n ≤ 20000000) : whileF N (tickB N n) ((0 : Int), s) = some (Sum.inl (tickN s n.toNat)) := by
  refine throughG (fun k => ((k : Int), tickN s k)) (Sum.inl (tickN s n.toNat)) n.toNat (show n.toNat < N by omega) (fun k hk => ?_) ?_
  · have a := tickN_ok h k (by omega)
    have t := tickN_time s k
    exact tickB_eq hN (show 1125899906842624 + 16 * (k : Int) ≤ 1125899906852224 by omega) a (by omega) (by omega) h2
  · unfold tickB
    have : decide (((n.toNat : Nat) : Int) < n) = false := by rw [decide_eq_false_iff_not]; omega
    simp only [this, cond_false]
theorem do_bad {s : LiftState} (h : ¬ Ok s) (e : LiftEvent) : lift_Do N s e = some (z_LiftState, 1) := by
  rw [do_form]
  unfold doF
  obtain ⟨b, eq, hb⟩ := right_eq hN s
  have : b = false := by
    cases b with
    | false => rfl
    | true => exact absurd (hb.1 rfl) h
  rw [eq, this]
  rfl
theorem do_eq {s : LiftState} (h : Ok s) (e : LiftEvent) : lift_Do N s e = some (doS s e) := by
  obtain ⟨f1, f2, f3, f4, f5, f6⟩ := id h.fit
  have cl := h.chn.len
  have ln := h.line.len
  have ql := h.que.len
  have bl := ((rightB_iff _).1 h.brk).1
  have ck := ck_ok h.chk
  have cki := ck.items
  have cks := ck.signs
  have t := h.time
  have o := h.off
  rw [do_form]
  unfold doF
  rw [right_ok hN h, Option.bind_some, Bool.not_true, cond_false, liftClone_eq s (by omega) (by omega) (by omega) (by omega) (by omega) (by omega), Option.bind_some]
  have fin : ∀ r : LiftState × Int, e.Kind ≠ 1 → actS s e = r → finE N e (r.2, r.1) = some (doS s e) := fun r hk hr => by
    have := finE_eq hN (b := 1125899906842624) (s := r.1) (z := r.2) (fun hz => by rw [← hr] at hz ⊢; exact did_ok h (act_did hz)) hk
    rw [this]
    unfold doS
    rw [hr]
    have k1 : (e.Kind == 1) = false := by rw [beq_eq_false_iff_ne]; exact hk
    rw [k1]
    rfl
  have finf : ∀ r : LiftState, e.Kind ≠ 1 → actS s e = (r, 0) → finF N e r = some (doS s e) := fun r hk hr => by
    have := fin (r, 0) hk hr
    exact this
  cases k1 : e.Kind == 1 with
  | true =>
    rw [cond_true, cond_or, cond_or, Option.bind_some]
    rw [beq_iff_eq] at k1
    have ea : actS s e = tickS s e.N := by unfold actS; rw [k1]; rfl
    unfold doS
    rw [ea, k1]
    unfold tickS
    have e1 : (decide (e.N < 1) || (decide (e.N > 600) || decide (IntKind.i64.wrap (s.Time + e.N) > 20000000))) = (decide (e.N < 1) || (decide (e.N > 600) || decide (s.Time + e.N > 20000000))) := by
      by_cases a1 : e.N < 1
      · rw [decide_eq_true a1, Bool.true_or, Bool.true_or]
      · by_cases a2 : e.N > 600
        · rw [decide_eq_true a2, Bool.true_or, Bool.true_or]
        · rw [wrap64 (by omega) (by omega)]
    rw [e1]
    cases hc : (decide (e.N < 1) || (decide (e.N > 600) || decide (s.Time + e.N > 20000000))) with
    | true => rfl
    | false =>
      simp only [Bool.or_eq_false_iff, decide_eq_false_iff_not] at hc
      simp only [cond_false, ticks_eq hN h (show 1 ≤ e.N by omega) (by omega) (by omega), Option.bind_some, Sum.elim_inl, cond_or, finF_one k1]
      cases (decide ((tickN s e.N.toNat).Up > 1125899906842624) || decide ((tickN s e.N.toNat).Off > 1125899906842624)) <;> rfl
  | false =>
  have hk := k1
  rw [beq_eq_false_iff_ne] at hk
  rw [cond_false]
  obtain ⟨K, n, m, by'⟩ := e
  simp only at hk k1 fin finf ⊢
  by_cases k2 : K = 2
  · subst k2
    simp only [Int.reduceBEq, cond_true, cond_false, Option.bind_some, may_eq hN h]
    cases h1 : (s.Mode != 0) with
    | true => exact fin (s, 10) hk (by simp [actS, h1])
    | false =>
      cases h2 : (mayS s != 0) with
      | true => exact fin (s, mayS s) hk (by simp [actS, h1, h2])
      | false => exact finf _ hk (by simp [actS, h1, h2])
  by_cases k3 : K = 3
  · subst k3
    simp only [Int.reduceBEq, cond_true, cond_false, Option.bind_some, el_eq]
    cases h1 : (s.Mode != 1) with
    | true => exact fin (s, 10) hk (by simp [actS, h1])
    | false => exact finf _ hk (by simp [actS, h1])
  by_cases k17 : K = 17
  · subst k17
    simp only [Int.reduceBEq, cond_true, cond_false, Option.bind_some, el_eq, cond_or, cond_and, halt_eq]
    have ea : actS s ⟨17, n, m, by'⟩ = rescueS s := rfl
    cases h1 : (s.Mode == 0 || s.Mode == 2) with
    | true => exact fin (s, 10) hk (by rw [ea]; unfold rescueS; rw [h1]; rfl)
    | false =>
      cases h2 : (s.Drive.Speed != 0) with
      | true => exact fin (s, 13) hk (by rw [ea]; unfold rescueS; rw [h1, h2]; rfl)
      | false =>
        cases h3 : (s.Drive.State == 1 && decide (s.Drive.Target > 1000)) with
        | true => exact fin (_, 0) hk (by rw [ea]; unfold rescueS; rw [h1, h2, h3]; rfl)
        | false => exact fin (_, 0) hk (by rw [ea]; unfold rescueS; rw [h1, h2, h3]; rfl)
  by_cases k18 : K = 18
  · subst k18
    simp only [Int.reduceBEq, cond_true, cond_false, Option.bind_some, el_eq, take_eq (N := N) h.line f5]
    have ea : actS s ⟨18, n, m, by'⟩ = bringS s m n := rfl
    cases h1 : (s.Mode != 2) with
    | true => exact fin (s, 10) hk (by rw [ea]; unfold bringS; rw [h1]; rfl)
    | false =>
      cases h2 : (s.Drive.Speed != 0) with
      | true => exact fin (s, 13) hk (by rw [ea]; unfold bringS; rw [h1, h2]; rfl)
      | false =>
        cases h3 : ((takeR s.Line m n).2 != 0) with
        | true => exact fin (s, (takeR s.Line m n).2) hk (by rw [ea]; unfold bringS; rw [h1, h2, h3]; rfl)
        | false =>
          have hnb : 0 ≤ n ∧ n ≤ 16 := by
            unfold takeR at h3
            cases c1 : (!(decide (m ≥ 0) && decide (m < (s.Line.Load.length : Int)))) with
            | true => rw [c1] at h3; cases h3
            | false =>
              cases c2 : (decide (n < 0) || decide (n > s.Line.Load.getD m.toNat 0)) with
              | true => rw [c1, c2] at h3; cases h3
              | false =>
                simp only [Bool.not_eq_false', Bool.and_eq_true, Bool.or_eq_false_iff, decide_eq_true_eq, decide_eq_false_iff_not] at c1 c2
                have := h.line.load m.toNat (by omega)
                omega
          rw [wrap64 (z := s.Off + n) (by omega) (by omega)]
          cases h4 : decide (s.Off + n > 1125899906842624) with
          | true => exact fin (s, 12) hk (by rw [ea]; unfold bringS; rw [h1, h2, h3, h4]; rfl)
          | false => exact fin (_, 0) hk (by rw [ea]; unfold bringS; rw [h1, h2, h3, h4]; rfl)
  by_cases k19 : K = 19
  · subst k19
    simp only [Int.reduceBEq, cond_true, cond_false, Option.bind_some, el_eq, people_eq hN h.line f5]
    cases h1 : (s.Mode != 2) with
    | true => exact fin (s, 10) hk (by simp [actS, h1])
    | false =>
      cases h2 : decide (peopleS s.Line > 0) with
      | true => exact fin (s, 13) hk (by simp only [actS, Int.reduceBEq, cond_true, cond_false, h1, h2])
      | false => exact finf _ hk (by simp only [actS, Int.reduceBEq, cond_true, cond_false, h1, h2])
  have b2 : (K == 2) = false := by rw [beq_eq_false_iff_ne]; exact k2
  have b3 : (K == 3) = false := by rw [beq_eq_false_iff_ne]; exact k3
  have b17 : (K == 17) = false := by rw [beq_eq_false_iff_ne]; exact k17
  have b18 : (K == 18) = false := by rw [beq_eq_false_iff_ne]; exact k18
  have b19 : (K == 19) = false := by rw [beq_eq_false_iff_ne]; exact k19
  simp only [b2, b3, b17, b18, b19, cond_false, Option.bind_some]
  by_cases k4 : K = 4
  · subst k4
    simp only [Int.reduceBEq, cond_true, cond_false, Option.bind_some, may_eq hN h, cond_and, start_eq]
    cases h1 : (s.Mode == 0) with
    | true => exact fin (s, 10) hk (by simp only [actS, Int.reduceBEq, cond_true, cond_false, h1])
    | false =>
      cases h2 : (s.Mode == 2 && decide (n > 1000)) with
      | true => exact fin (s, 2) hk (by simp only [actS, Int.reduceBEq, cond_true, cond_false, h1, h2])
      | false =>
        cases h3 : (mayS s != 0) with
        | true => exact fin (s, mayS s) hk (by simp only [actS, Int.reduceBEq, cond_true, cond_false, h1, h2, h3])
        | false => exact fin (onD s (startD s.Motor s.Drive n)) hk (by simp only [actS, Int.reduceBEq, cond_true, cond_false, h1, h2, h3])
  by_cases k5 : K = 5
  · subst k5
    simp only [Int.reduceBEq, cond_true, cond_false, Option.bind_some, halt_eq]
    exact fin (_, 0) hk rfl
  by_cases k6 : K = 6
  · subst k6
    simp only [Int.reduceBEq, cond_true, cond_false, Option.bind_some]
    exact fin (_, 0) hk rfl
  by_cases k7 : K = 7
  · subst k7
    simp only [Int.reduceBEq, cond_true, cond_false, Option.bind_some, reset_eq]
    exact fin (onD s (resetD s.Drive)) hk rfl
  have b4 : (K == 4) = false := by rw [beq_eq_false_iff_ne]; exact k4
  have b5 : (K == 5) = false := by rw [beq_eq_false_iff_ne]; exact k5
  have b6 : (K == 6) = false := by rw [beq_eq_false_iff_ne]; exact k6
  have b7 : (K == 7) = false := by rw [beq_eq_false_iff_ne]; exact k7
  simp only [b4, b5, b6, b7, cond_false, Option.bind_some]
  have hcl : s.Chain.Contacts.length ≤ 1000 := by omega
  by_cases k8 : K = 8
  · subst k8
    simp only [Int.reduceBEq, cond_true, cond_false, Option.bind_some, Ch.break_eq hN hcl]
    exact fin (onC s (Ch.breakS s.Chain n)) hk rfl
  by_cases k9 : K = 9
  · subst k9
    simp only [Int.reduceBEq, cond_true, cond_false, Option.bind_some, el_eq, Ch.make_eq hN hcl]
    exact fin (onC s (Ch.makeS s.Chain n)) hk rfl
  by_cases k10 : K = 10
  · subst k10
    simp only [Int.reduceBEq, cond_true, cond_false, Option.bind_some, el_eq, Ch.clear_eq hN hcl]
    exact fin (onC s (Ch.clearS s.Chain n by')) hk rfl
  by_cases k11 : K = 11
  · subst k11
    simp only [Int.reduceBEq, cond_true, cond_false, Option.bind_some, el_eq, Ch.take_eq hN hcl]
    exact fin (onC s (Ch.takeS s.Chain by')) hk rfl
  by_cases k12 : K = 12
  · subst k12
    simp only [Int.reduceBEq, cond_true, cond_false, Option.bind_some, el_eq, cond_or]
    cases h1 : (decide (m < 1) || decide (m > 3600)) with
    | true => exact fin (s, 2) hk (by simp only [actS, Int.reduceBEq, cond_true, cond_false, h1])
    | false =>
      have h1' := h1
      simp only [Bool.or_eq_false_iff, decide_eq_false_iff_not] at h1'
      simp only [cond_false, wrap64 (z := s.Time + m) (by omega) (by omega), Ch.bypass_eq hN hcl, Option.bind_some]
      exact fin (onC s (Ch.bypassS s.Chain n by' (s.Time + m))) hk (by simp only [actS, Int.reduceBEq, cond_true, cond_false, h1])
  have b8 : (K == 8) = false := by rw [beq_eq_false_iff_ne]; exact k8
  have b9 : (K == 9) = false := by rw [beq_eq_false_iff_ne]; exact k9
  have b10 : (K == 10) = false := by rw [beq_eq_false_iff_ne]; exact k10
  have b11 : (K == 11) = false := by rw [beq_eq_false_iff_ne]; exact k11
  have b12 : (K == 12) = false := by rw [beq_eq_false_iff_ne]; exact k12
  simp only [b8, b9, b10, b11, b12, cond_false, Option.bind_some]
  by_cases k13 : K = 13
  · subst k13
    simp only [Int.reduceBEq, cond_true, cond_false, Option.bind_some, btest_eq hN s.Brakes (show s.Brakes.length ≤ 900 by omega)]
    cases h1 : (s.Drive.State != 0) with
    | true => exact fin (s, 10) hk (by simp only [actS, Int.reduceBEq, cond_true, cond_false, h1])
    | false => exact fin (setBrakes s (testB s.Brakes n m s.Time).1, (testB s.Brakes n m s.Time).2) hk (by simp only [actS, Int.reduceBEq, cond_true, cond_false, h1])
  by_cases k14 : K = 14
  · subst k14
    simp only [Int.reduceBEq, cond_true, cond_false, Option.bind_some, el_eq, update_eq]
    exact fin (setWind s (updA s.Wind n s.Time).1, (updA s.Wind n s.Time).2) hk rfl
  by_cases k15 : K = 15
  · subst k15
    simp only [Int.reduceBEq, cond_true, cond_false, Option.bind_some, el_eq, sign_eq hN ck]
    exact fin (setChecks s (signC s.Checks n by' s.Time).1, (signC s.Checks n by' s.Time).2) hk rfl
  by_cases k16 : K = 16
  · subst k16
    simp only [Int.reduceBEq, cond_true, cond_false, Option.bind_some, el_eq, join_ex (N := N) h.que, single_ex (N := N) h.que]
    cases h1 : (s.Mode != 1) with
    | true => exact fin (s, 10) hk (by simp only [actS, Int.reduceBEq, cond_true, cond_false, h1])
    | false =>
      cases h2 : (m == 0) with
      | true => exact fin (setQueue s (joinS s.Queue n).1, (joinS s.Queue n).2) hk (by simp only [actS, Int.reduceBEq, cond_true, cond_false, h1, h2])
      | false =>
        cases h3 : (m == 1) with
        | true => exact fin (setQueue s (singleS s.Queue n).1, (singleS s.Queue n).2) hk (by simp only [actS, Int.reduceBEq, cond_true, cond_false, h1, h2, h3])
        | false => exact fin (s, 2) hk (by simp only [actS, Int.reduceBEq, cond_true, cond_false, h1, h2, h3])
  have b13 : (K == 13) = false := by rw [beq_eq_false_iff_ne]; exact k13
  have b14 : (K == 14) = false := by rw [beq_eq_false_iff_ne]; exact k14
  have b15 : (K == 15) = false := by rw [beq_eq_false_iff_ne]; exact k15
  have b16 : (K == 16) = false := by rw [beq_eq_false_iff_ne]; exact k16
  simp only [b13, b14, b15, b16, cond_false, Option.bind_some]
  unfold doS actS
  simp only [k1, b2, b3, b17, b18, b19, b4, b5, b6, b7, b8, b9, b10, b11, b12, b13, b14, b15, b16, cond_false]
  rfl
end
end Go.Proofs.Ythjmbcnohgaihaa
