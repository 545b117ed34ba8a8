/- Own texts in one module: Lfg4 Lfg5. No condition. -/
import Derived.Test.YthjmbcnohgaihaaGreatPlC
import Derived.Test.YthjmbcnohgaihaaGreatPlD
import Derived.Test.YthjmbcnohgaihaaGreatCmp
/- The lift: the reference's Do is the plain function doS. No condition. -/
namespace Go.Proofs.YthjmbcnohgaihaaGreat
open Go.Cm Go.Proofs
section
variable {N : Nat}
theorem suits_eq {l : Lift} (h : NewOk l) (m : Motor) (a : Alarm) (t : Int) : ∃ b, r20_suits N l m a t = some b ∧ (b = true ↔ fitP l m a t) := by
  have h1 := h.spc
  obtain ⟨b, e, hb⟩ := rdright_eq (N := N) m
  unfold r20_suits fitP
  simp only [e, Option.bind_some, rupdate_eq, wrap64 (z := 500 * l.Spacing) (by omega) (by omega), cond_and]
  rw [← hb]
  have hu : ((updA a 0 t).2 == 0) = !badA a 0 t := by
    unfold updA
    cases badA a 0 t with
    | true => rfl
    | false =>
      simp only [cond_false]
      cases decide (0 ≥ a.On) <;> cases decide (0 ≥ a.Off) <;> rfl
  refine ⟨_, rfl, ?_⟩
  rw [hu]
  simp only [Bool.and_eq_true, decide_eq_true_eq, Bool.not_eq_true', ge_iff_le]
variable (hN : 1000 < N)
include hN
theorem rright_eq (s : LiftState) : ∃ b, r20_Right N s = some b ∧ (b = true ↔ Ok s) := by
  unfold r20_Right
  simp only [rropeNew_eq, Option.bind_some, cond_or]
  cases h1 : ((newR s.Lift).2 != 0 || (s.Line.Loop != (newR s.Lift).1.Loop || (s.Line.Spacing != (newR s.Lift).1.Spacing || (s.Line.Load.length : Int) != ((newR s.Lift).1.Load.length : Int)))) with
  | true =>
    refine ⟨false, rfl, fun h => (by cases h), fun h => ?_⟩
    have n := h.new
    have e := new_some n
    have k := ((new_iff _).1 n).cnt
    have a1 := h.loop
    have a2 := h.spc
    have a3 := h.cnt
    rw [e] at h1
    simp only [Bool.or_eq_true, bne_iff_ne, List.length_replicate] at h1
    omega
  | false =>
    simp only [Bool.or_eq_false_iff, bne_eq_false_iff_eq] at h1
    obtain ⟨n, a1, a2, a3⟩ := h1
    have k := (new_iff _).1 n
    have kc := k.cnt
    rw [new_some n] at a1 a2 a3
    simp only [List.length_replicate] at a1 a2 a3
    obtain ⟨b, e, hb⟩ := suits_eq (N := N) k s.Motor s.Wind s.Time
    obtain ⟨b1, e1, hb1⟩ := rdvalid_eq (N := N) s.Motor s.Drive
    simp only [cond_false, e, e1, Option.bind_some, cond_or]
    cases h2 : (decide (s.Time < 0) || (decide (s.Time > 20000000) || (!b || !b1))) with
    | true =>
      refine ⟨false, rfl, fun h => (by cases h), fun h => ?_⟩
      have t := h.time
      rw [hb.2 h.fit, hb1.2 h.drv] at h2
      simp only [Bool.or_eq_true, decide_eq_true_eq, Bool.not_true, Bool.false_eq_true, or_false] at h2
      omega
    | false =>
      simp only [Bool.or_eq_false_iff, decide_eq_false_iff_not, Bool.not_eq_false'] at h2
      obtain ⟨b2, e2, hb2⟩ := rropeRight_eq hN s.Line s.Lift.Seats
      obtain ⟨b3, e3, hb3⟩ := rqright_eq hN s.Queue
      have hfit := hb.1 h2.2.2.1
      simp only [cond_false, e2, e3, rbright_eq hN, Ch.rright_eq hN, riright_eq hN, Option.bind_some, cond_or]
      cases h3 : (!b2 || (!b3 || (rightB s.Brakes != 0 || (Ch.rightS s.Chain != 0 || rightC s.Checks != 0)))) with
      | true =>
        refine ⟨false, rfl, fun h => (by cases h), fun h => ?_⟩
        rw [hb2.2 h.line, hb3.2 h.que, h.brk, Ch.right_zero.2 h.chn, h.chk] at h3
        cases h3
      | false =>
        simp only [Bool.or_eq_false_iff, Bool.not_eq_false', bne_eq_false_iff_eq] at h3
        have hl := hb2.1 h3.1
        obtain ⟨_, _, _, f4, f5, _⟩ := id hfit
        simp only [cond_false, rpeople_eq hN hl f5, Option.bind_some, cond_and]
        refine ⟨_, rfl, ?_⟩
        simp only [Bool.and_eq_true, decide_eq_true_eq, beq_iff_eq]
        constructor
        · rintro ⟨c1, c2, c3, c4, c5, c6, c7⟩
          rw [wrap64 (by omega) (by omega)] at c7
          exact ⟨n, a1, a2, by omega, by omega, hfit, hb1.1 h2.2.2.2, hl, hb3.1 h3.2.1, h3.2.2.1, Ch.right_zero.1 h3.2.2.2.1, h3.2.2.2.2, by omega, by omega, by omega, c7⟩
        · intro h
          have m := h.mode
          have u := h.up
          have o := h.off
          rw [wrap64 (by omega) (by omega)]
          exact ⟨by omega, by omega, by omega, by omega, by omega, by omega, h.ppl⟩
theorem rload20_eq {b : Int} {s : LiftState} (h : OkB b s) : r20_Load N s = some (loadS s) ∧ lift_Load N s = some (loadS s) := by
  obtain ⟨_, _, _, f4, f5, _⟩ := id h.fit
  have k := ((new_iff _).1 h.new).len
  have pb := people_nonneg h
  unfold r20_Load lift_Load loadS
  simp only [rpeople_eq hN h.line f5, people_eq hN h.line f5, Option.bind_some, wrap64 (z := 10 * s.Lift.Length) (by omega) (by omega), wrap64 (z := 100 * peopleS s.Line) (by omega) (by omega), wrap64 (z := 10 * s.Lift.Length + 100 * peopleS s.Line) (by omega) (by omega), and_self]
theorem rmay_eq {b : Int} {s : LiftState} (h : OkB b s) : r20_May N s = some (mayS s) := by
  have c := h.chn.len
  have t := h.time
  have e1 := (rload20_eq hN h).1
  unfold r20_May mayS
  rw [e1]
  simp only [Ch.rfaults_eq hN (show s.Chain.Contacts.length ≤ 1000 by omega), Option.bind_some, renough_eq hN h.brk _ t.1 t.2, rdone_eq hN (ck_ok h.chk)]
  have e2 : (s.Mode != 2) = !(s.Mode == 2) := rfl
  rw [e2]
  cases decide (((Ch.faultsS s.Chain s.Time).length : Int) > 0) <;> cases enoughB s.Brakes (loadS s) s.Time <;> cases (s.Mode == 2) <;> cases doneC s.Checks s.Time <;> cases s.Wind.Active <;> rfl
theorem rguard_eq {b : Int} {s : LiftState} (h : OkB b s) : r20_guard N s = some (guardS s) := by
  obtain ⟨_, _, _, f4, f5, _⟩ := id h.fit
  have g1 := guard1_ok h
  have c := h.chn.len
  unfold r20_guard
  rw [Ch.rexpire_eq hN (show s.Chain.Contacts.length ≤ 1000 by omega), Option.bind_some, rpeople_eq hN h.line f5]
  simp only [Option.bind_some, cond_and]
  have e1 : (bif s.Mode == 3 && peopleS s.Line == 0 then some (LiftState.mk s.Lift s.Motor s.Drive s.Brakes (Ch.expS s.Chain s.Time) s.Wind s.Line s.Queue s.Checks s.Time (0 : Int) s.Up s.Off)
        else some (LiftState.mk s.Lift s.Motor s.Drive s.Brakes (Ch.expS s.Chain s.Time) s.Wind s.Line s.Queue s.Checks s.Time s.Mode s.Up s.Off)) = some (guard1 s) := by
    unfold guard1
    cases (s.Mode == 3 && peopleS s.Line == 0) <;> rfl
  rw [e1, Option.bind_some]
  show _ = some (guard2 (guard1 s))
  generalize guard1 s = r at g1 ⊢
  unfold guard2
  cases (r.Drive.State != 1) with
  | true => rfl
  | false =>
    rw [cond_false, cond_false, rmay_eq hN g1, Option.bind_some]
    have e2 : (r.Mode != 0) = !(r.Mode == 0) := rfl
    have e3 : (mayS r != 0) = !(mayS r == 0) := rfl
    rw [e2, e3]
    simp only [rhalt_eq, Option.bind_some]
    cases hm : (mayS r == 0) with
    | true =>
      rw [beq_iff_eq] at hm
      rw [hm]
      cases (r.Mode == 0) <;> rfl
    | false => cases (r.Mode == 0) <;> cases (mayS r == 13) <;> cases (mayS r == 14) <;> rfl
theorem rsecond_eq {b : Int} (hb : b ≤ 1125899906852224) {s : LiftState} (h : OkB b s) (ht : s.Time + 1 ≤ 20000000) : r20_second N s = some (second2 s) := by
  obtain ⟨f1, f2, f3, f4, f5, f6⟩ := id h.fit
  have st := rstep_eq hN f1 h.drv
  have sp := speed_ok h
  have t := h.time
  have s1 := second1_ok h ht
  have u := h.up
  have o := h.off
  have o1 := s1.off
  have o1' : s.Off + leftR s.Line (stepD s.Motor s.Drive).Speed s.Line.Load.length ≤ b := o1.2
  have o1'' : 0 ≤ s.Off + leftR s.Line (stepD s.Motor s.Drive).Speed s.Line.Load.length := o1.1
  have ssp := h.line.spc
  unfold r20_second
  simp only [st, Option.bind_some, rmove_eq hN h.line f5 sp.1 (show (stepD s.Motor s.Drive).Speed ≤ s.Line.Spacing by omega), cond_and, wrap64 (z := s.Off + leftR s.Line (stepD s.Motor s.Drive).Speed s.Line.Load.length) (by omega) (by omega), wrap64 (z := s.Time + 1) (by omega) (by omega)]
  unfold second2
  have e0 : (decide (passR s.Line (stepD s.Motor s.Drive).Speed s.Line.Load.length ≥ 0) && s.Mode == 1) = (decide (passS s ≥ 0) && s.Mode == 1) := rfl
  rw [e0]
  cases hc : (decide (passS s ≥ 0) && s.Mode == 1) with
  | false => rfl
  | true =>
    rw [Bool.and_eq_true, decide_eq_true_eq] at hc
    obtain ⟨i, e, a, p1, p2, p3⟩ := pass_idx h hc.1
    obtain ⟨q1, q2, q3, q4⟩ := seat_ok h.que f4 f5
    have hi : i < (moveR s.Line (stepD s.Motor s.Drive).Speed).Load.length := by
      show i < (ldsR s.Line _).length
      rw [ldsR_len]
      exact a
    have le := rload_eq (N := N) (move_ok h.line sp.1 (by omega)) f5 hi q3 q4 p1 p2 p3
    have e' : passR s.Line (stepD s.Motor s.Drive).Speed s.Line.Load.length = (i : Int) := e
    simp only [cond_true, rseat_eq hN h.que f4 f5, Option.bind_some, e', le, wrap64 (z := s.Up + (seatS s.Queue s.Lift.Seats).2) (by omega) (by omega), e, Int.toNat_natCast]
    rfl
omit hN in
/-- after some seconds, without the last guard -/
def tickP (s : LiftState) : Nat → LiftState
  | 0 => s
  | k + 1 => second2 (tickN s k)
omit hN in
theorem tickP_keep (s : LiftState) (k : Nat) : (tickP s k).Up = (tickN s k).Up ∧ (tickP s k).Off = (tickN s k).Off := by
  cases k with
  | zero => exact ⟨rfl, rfl⟩
  | succ k =>
    obtain ⟨_, _, _, _, g2, g3, _⟩ := guard_keep (second2 (tickN s k))
    exact ⟨g2.symm, g3.symm⟩
theorem rtick_eq {s : LiftState} (h : Ok s) (n : Int) : r20_tick N s n = some (bif decide (n < 1) || (decide (n > 600) || decide (s.Time + n > 20000000)) then (s, 2) else bif decide ((tickN s n.toNat).Up > 1125899906842624) || decide ((tickN s n.toNat).Off > 1125899906842624) then (tickP s n.toNat, 12) else (tickP s n.toNat, 0)) := by
  have t := h.time
  unfold r20_tick
  simp only [cond_or, Option.bind_some]
  have e1 : (decide (n < 1) || (decide (n > 600) || decide (s.Time > IntKind.i64.wrap (20000000 - n)))) = (decide (n < 1) || (decide (n > 600) || decide (s.Time + n > 20000000))) := by
    by_cases a1 : n < 1
    · rw [decide_eq_true a1, Bool.true_or, Bool.true_or]
    · by_cases a2 : n > 600
      · rw [decide_eq_true a2, Bool.true_or, Bool.true_or]
      · have : decide (s.Time > IntKind.i64.wrap (20000000 - n)) = decide (s.Time + n > 20000000) := by
          rw [wrap64 (by omega) (by omega), decide_eq_decide]
          omega
        rw [this]
  rw [e1]
  cases hc : (decide (n < 1) || (decide (n > 600) || decide (s.Time + n > 20000000))) with
  | true => rfl
  | false =>
    simp only [Bool.or_eq_false_iff, decide_eq_false_iff_not] at hc
    rw [cond_false, cond_false]
    refine (bindT (fun k => ((k : Int), tickP s k)) rfl (tickP s n.toNat) n.toNat (show n.toNat < N by omega) (fun k hk => ?_) ?_).trans ?_
    · have a := tickN_ok h k (by omega)
      have tt := tickN_time s k
      have d1 : decide ((k : Int) < n) = true := by rw [decide_eq_true_eq]; omega
      have e2 : (bif decide ((k : Int) > 0) then (r20_guard N (tickP s k)).bind fun r4 => some r4 else some (tickP s k)) = some (tickN s k) := by
        cases k with
        | zero => rfl
        | succ k =>
          have d : decide (((k + 1 : Nat) : Int) > 0) = true := by rw [decide_eq_true_eq]; omega
          have a' := tickN_ok h k (by omega)
          have tt' := tickN_time s k
          rw [d, cond_true]
          show ((r20_guard N (second2 (tickN s k))).bind fun r4 => some r4) = some (guardS (second2 (tickN s k)))
          rw [rguard_eq hN (second2_ok a' (by omega))]
          rfl
      simp only [d1, cond_true, e2, Option.bind_some, rsecond_eq hN (show 1125899906842624 + 16 * (k : Int) ≤ 1125899906852224 by omega) a (by omega), wrapC (show k < 9223372036854775807 by omega)]
      rfl
    · have : decide (((n.toNat : Nat) : Int) < n) = false := by rw [decide_eq_false_iff_not]; omega
      simp only [this, cond_false]
    · obtain ⟨k1, k2⟩ := tickP_keep s n.toNat
      rw [k1, k2]
      cases (decide ((tickN s n.toNat).Up > 1125899906842624) || decide ((tickN s n.toNat).Off > 1125899906842624)) <;> rfl
theorem rdo_bad {s : LiftState} (h : ¬ Ok s) (e : LiftEvent) : r20_Do N s e = some (z_LiftState, 1) := by
  unfold r20_Do
  obtain ⟨b, eq, hb⟩ := rright_eq hN s
  have : b = false := by
    cases b with
    | false => rfl
    | true => exact absurd (hb.1 rfl) h
  rw [eq, this]
  rfl
theorem rdo_eq {s : LiftState} (h : Ok s) (e : LiftEvent) : r20_Do N s e = some (doS s e) := by
  obtain ⟨f1, f2, f3, f4, f5, f6⟩ := id h.fit
  have cl := h.chn.len
  have hcl : s.Chain.Contacts.length ≤ 1000 := by omega
  have ck := ck_ok h.chk
  have t := h.time
  have o := h.off
  obtain ⟨b, eq, hb⟩ := rright_eq hN s
  unfold r20_Do
  rw [eq, hb.2 h, Option.bind_some, Bool.not_true, cond_false]
  have fin : ∀ r : Int × LiftState, r.1 = (actS s e).2 → (r.1 = 0 → e.Kind ≠ 1 → r.2 = (actS s e).1) → (r.1 = 0 → e.Kind = 1 → OkB 1125899906852224 r.2 ∧ guardS r.2 = (actS s e).1) → (bif r.1 != 0 then some (z_LiftState, r.1) else (r20_guard N r.2).bind fun r26 => some (r26, (0 : Int))) = some (doS s e) := fun r h1 h2 h3 => by
    unfold doS
    rw [← h1]
    cases hz : (r.1 != 0) with
    | true => rfl
    | false =>
      rw [bne_eq_false_iff_eq] at hz
      rw [cond_false, cond_false]
      cases hk : (e.Kind == 1) with
      | true =>
        rw [beq_iff_eq] at hk
        obtain ⟨g1, g2⟩ := h3 hz hk
        rw [rguard_eq hN g1, g2]
        rfl
      | false =>
        rw [beq_eq_false_iff_ne] at hk
        have e2 := h2 hz hk
        have ok : Ok (actS s e).1 := did_ok h (act_did (by rw [← h1]; exact hz))
        rw [e2, rguard_eq hN ok]
        rfl
  obtain ⟨K, n, m, by'⟩ := e
  simp only at fin ⊢
  by_cases k1 : K = 1
  · subst k1
    simp only [Int.reduceBEq, cond_true, cond_false, Option.bind_some]
    have em : r20_move N s ⟨1, n, m, by'⟩ = r20_tick N s n := by
      show (r20_tick N s n).bind (fun r => some r) = _
      cases r20_tick N s n <;> rfl
    have ea : actS s ⟨1, n, m, by'⟩ = tickS s n := rfl
    rw [em, rtick_eq hN h, Option.bind_some, Option.bind_some, Option.bind_some]
    refine fin _ ?_ (fun _ hk => absurd rfl hk) ?_
    · rw [ea]
      unfold tickS
      cases (decide (n < 1) || (decide (n > 600) || decide (s.Time + n > 20000000))) <;> cases (decide ((tickN s n.toNat).Up > 1125899906842624) || decide ((tickN s n.toNat).Off > 1125899906842624)) <;> rfl
    · rw [ea]
      unfold tickS
      cases hc : (decide (n < 1) || (decide (n > 600) || decide (s.Time + n > 20000000))) with
      | true => intro hz; cases hz
      | false =>
        simp only [Bool.or_eq_false_iff, decide_eq_false_iff_not] at hc
        cases (decide ((tickN s n.toNat).Up > 1125899906842624) || decide ((tickN s n.toNat).Off > 1125899906842624)) with
        | true => intro hz; cases hz
        | false =>
          intro _ _
          obtain ⟨k, hk⟩ : ∃ k, n.toNat = k + 1 := ⟨n.toNat - 1, by omega⟩
          have a := tickN_ok h k (by omega)
          have tt := tickN_time s k
          show OkB _ (tickP s n.toNat) ∧ guardS (tickP s n.toNat) = tickN s n.toNat
          rw [hk]
          exact ⟨(second2_ok a (by omega)).mono (by omega), rfl⟩
  have fin' : ∀ r : Int × LiftState, (r.1 = (actS s ⟨K, n, m, by'⟩).2) → (r.1 = 0 → r.2 = (actS s ⟨K, n, m, by'⟩).1) → (bif r.1 != 0 then some (z_LiftState, r.1) else (r20_guard N r.2).bind fun r26 => some (r26, (0 : Int))) = some (doS s ⟨K, n, m, by'⟩) := fun r h1 h2 => fin r h1 (fun hz _ => h2 hz) (fun _ hk => absurd hk k1)
  have b1 : (K == 1) = false := by rw [beq_eq_false_iff_ne]; exact k1
  by_cases k2 : K = 2
  · subst k2
    unfold r20_mode
    simp only [Int.reduceBEq, cond_true, cond_false, Option.bind_some, rmay_eq hN h]
    cases h1 : (s.Mode != 0) with
    | true => exact fin' (10, s) (by simp [actS, h1]) (fun hz => by cases hz)
    | false =>
      cases h2 : (mayS s != 0) with
      | true => exact fin' (mayS s, s) (by simp [actS, h1, h2]) (fun hz => by simp only at hz; rw [hz] at h2; cases h2)
      | false => exact fin' (0, _) (by simp [actS, h1, h2]) (fun _ => by simp [actS, h1, h2, setMode])
  by_cases k3 : K = 3
  · subst k3
    unfold r20_mode
    simp only [Int.reduceBEq, cond_true, cond_false, Option.bind_some]
    cases h1 : (s.Mode != 1) with
    | true => exact fin' (10, s) (by simp [actS, h1]) (fun hz => by cases hz)
    | false => exact fin' (0, _) (by simp [actS, h1]) (fun _ => by simp [actS, h1, setMode, setQueue])
  by_cases k17 : K = 17
  · subst k17
    unfold r20_mode
    simp only [Int.reduceBEq, cond_true, cond_false, Option.bind_some, cond_or, cond_and, rhalt_eq]
    have ea : actS s ⟨17, n, m, by'⟩ = rescueS s := rfl
    rw [ea] at fin'
    unfold rescueS at fin'
    cases h1 : (s.Mode == 0 || s.Mode == 2) with
    | true => rw [h1] at fin'; exact fin' (10, s) rfl (fun hz => by cases hz)
    | false =>
      cases h2 : (s.Drive.Speed != 0) with
      | true => rw [h1, h2] at fin'; exact fin' (13, s) rfl (fun hz => by cases hz)
      | false =>
        rw [h1, h2] at fin'
        cases h3 : (s.Drive.State == 1 && decide (s.Drive.Target > 1000)) with
        | true => rw [h3] at fin'; exact fin' (0, _) rfl (fun _ => rfl)
        | false => rw [h3] at fin'; exact fin' (0, _) rfl (fun _ => rfl)
  by_cases k18 : K = 18
  · subst k18
    unfold r20_other
    simp only [Int.reduceBEq, cond_true, cond_false, Option.bind_some, rtakeR_eq (N := N) h.line f5]
    have ea : actS s ⟨18, n, m, by'⟩ = bringS s m n := rfl
    rw [ea] at fin'
    unfold bringS at fin'
    cases h1 : (s.Mode != 2) with
    | true => rw [h1] at fin'; exact fin' (10, s) rfl (fun hz => by cases hz)
    | false =>
      cases h2 : (s.Drive.Speed != 0) with
      | true => rw [h1, h2] at fin'; exact fin' (13, s) rfl (fun hz => by cases hz)
      | false =>
        rw [h1, h2] at fin'
        have e3 : ((takeR s.Line m n).2 == 0) = !((takeR s.Line m n).2 != 0) := by rw [bne, Bool.not_not]
        rw [e3]
        cases h3 : ((takeR s.Line m n).2 != 0) with
        | true =>
          rw [h3] at fin'
          exact fin' ((takeR s.Line m n).2, _) rfl (fun hz => by simp only at hz; rw [hz] at h3; cases h3)
        | false =>
          rw [h3] at fin'
          have hz3 := h3
          rw [bne_eq_false_iff_eq] at hz3
          have hnb : 0 ≤ n ∧ n ≤ 16 := by
            unfold takeR at h3
            cases c1 : (!(decide (m ≥ 0) && decide (m < (s.Line.Load.length : Int)))) with
            | true => rw [c1] at h3; cases h3
            | false =>
              cases c2 : (decide (n < 0) || decide (n > s.Line.Load.getD m.toNat 0)) with
              | true => rw [c1, c2] at h3; cases h3
              | false =>
                simp only [Bool.not_eq_false', Bool.and_eq_true, Bool.or_eq_false_iff, decide_eq_true_eq, decide_eq_false_iff_not] at c1 c2
                have := h.line.load m.toNat (by omega)
                omega
          simp only [wrap64 (z := s.Off + n) (by omega) (by omega), hz3, Bool.not_false, cond_true, cond_false]
          cases h4 : decide (s.Off + n > 1125899906842624) with
          | true => rw [h4] at fin'; exact fin' (12, _) rfl (fun hz => by cases hz)
          | false => rw [h4] at fin'; exact fin' (0, _) rfl (fun _ => rfl)
  by_cases k19 : K = 19
  · subst k19
    unfold r20_mode
    simp only [Int.reduceBEq, cond_true, cond_false, Option.bind_some, rpeople_eq hN h.line f5]
    cases h1 : (s.Mode != 2) with
    | true => exact fin' (10, s) (by simp [actS, h1]) (fun hz => by cases hz)
    | false =>
      cases h2 : decide (peopleS s.Line > 0) with
      | true => exact fin' (13, s) (by simp only [actS, Int.reduceBEq, cond_true, cond_false, h1, h2]) (fun hz => by cases hz)
      | false => exact fin' (0, _) (by simp only [actS, Int.reduceBEq, cond_true, cond_false, h1, h2]) (fun _ => by simp only [actS, Int.reduceBEq, cond_true, cond_false, h1, h2]; rfl)
  have b2 : (K == 2) = false := by rw [beq_eq_false_iff_ne]; exact k2
  have b3 : (K == 3) = false := by rw [beq_eq_false_iff_ne]; exact k3
  have b17 : (K == 17) = false := by rw [beq_eq_false_iff_ne]; exact k17
  have b18 : (K == 18) = false := by rw [beq_eq_false_iff_ne]; exact k18
  have b19 : (K == 19) = false := by rw [beq_eq_false_iff_ne]; exact k19
  simp only [b1, b2, b3, b17, b19, cond_false, Option.bind_some]
  by_cases k4 : K = 4
  · subst k4
    unfold r20_move
    simp only [Int.reduceBEq, cond_true, cond_false, Option.bind_some, rmay_eq hN h, cond_and, rstart_eq]
    cases h1 : (s.Mode == 0) with
    | true => exact fin' (10, s) (by simp only [actS, Int.reduceBEq, cond_true, cond_false, h1]) (fun hz => by cases hz)
    | false =>
      cases h2 : (s.Mode == 2 && decide (n > 1000)) with
      | true => exact fin' (2, s) (by simp only [actS, Int.reduceBEq, cond_true, cond_false, h1, h2]) (fun hz => by cases hz)
      | false =>
        cases h3 : (mayS s != 0) with
        | true => exact fin' (mayS s, s) (by simp only [actS, Int.reduceBEq, cond_true, cond_false, h1, h2, h3]) (fun hz => by simp only at hz; rw [hz] at h3; cases h3)
        | false => exact fin' ((startD s.Motor s.Drive n).2, _) (by simp only [actS, Int.reduceBEq, cond_true, cond_false, h1, h2, h3]; rfl) (fun _ => by simp only [actS, Int.reduceBEq, cond_true, cond_false, h1, h2, h3]; rfl)
  by_cases k5 : K = 5
  · subst k5
    unfold r20_move
    simp only [Int.reduceBEq, cond_true, cond_false, Option.bind_some, rhalt_eq]
    exact fin' (0, _) rfl (fun _ => rfl)
  by_cases k6 : K = 6
  · subst k6
    unfold r20_move
    simp only [Int.reduceBEq, cond_true, cond_false, Option.bind_some]
    exact fin' (0, _) rfl (fun _ => rfl)
  by_cases k7 : K = 7
  · subst k7
    unfold r20_move
    simp only [Int.reduceBEq, cond_true, cond_false, Option.bind_some, rreset_eq]
    exact fin' ((resetD s.Drive).2, _) rfl (fun _ => rfl)
  have b4 : (K == 4) = false := by rw [beq_eq_false_iff_ne]; exact k4
  have b5 : (K == 5) = false := by rw [beq_eq_false_iff_ne]; exact k5
  have b6 : (K == 6) = false := by rw [beq_eq_false_iff_ne]; exact k6
  have b7 : (K == 7) = false := by rw [beq_eq_false_iff_ne]; exact k7
  simp only [b4, b5, b6, b7, cond_false, Option.bind_some]
  by_cases k8 : K = 8
  · subst k8
    unfold r20_contact
    simp only [Int.reduceBEq, cond_true, cond_false, Option.bind_some, Ch.rbreak_eq hN hcl]
    exact fin' ((Ch.breakS s.Chain n).2, _) rfl (fun _ => rfl)
  by_cases k9 : K = 9
  · subst k9
    unfold r20_contact
    simp only [Int.reduceBEq, cond_true, cond_false, Option.bind_some, Ch.rmake_eq hN hcl]
    exact fin' ((Ch.makeS s.Chain n).2, _) rfl (fun _ => rfl)
  by_cases k10 : K = 10
  · subst k10
    unfold r20_contact
    simp only [Int.reduceBEq, cond_true, cond_false, Option.bind_some, Ch.rclear_eq hN hcl]
    exact fin' ((Ch.clearS s.Chain n by').2, _) rfl (fun _ => rfl)
  by_cases k11 : K = 11
  · subst k11
    unfold r20_contact
    simp only [Int.reduceBEq, cond_true, cond_false, Option.bind_some, Ch.rtake_eq hN h.chn]
    exact fin' ((Ch.takeS s.Chain by').2, _) rfl (fun _ => rfl)
  by_cases k12 : K = 12
  · subst k12
    unfold r20_contact
    simp only [Int.reduceBEq, cond_true, cond_false, Option.bind_some, cond_or]
    cases h1 : (decide (m < 1) || decide (m > 3600)) with
    | true => exact fin' (2, s) (by simp only [actS, Int.reduceBEq, cond_true, cond_false, h1]) (fun hz => by cases hz)
    | false =>
      have h1' := h1
      simp only [Bool.or_eq_false_iff, decide_eq_false_iff_not] at h1'
      simp only [cond_false, wrap64 (z := s.Time + m) (by omega) (by omega), Ch.rbypass_eq hN h.chn, Option.bind_some]
      exact fin' ((Ch.bypassS s.Chain n by' (s.Time + m)).2, _) (by simp only [actS, Int.reduceBEq, cond_true, cond_false, h1]; rfl) (fun _ => by simp only [actS, Int.reduceBEq, cond_true, cond_false, h1]; rfl)
  have b8 : (K == 8) = false := by rw [beq_eq_false_iff_ne]; exact k8
  have b9 : (K == 9) = false := by rw [beq_eq_false_iff_ne]; exact k9
  have b10 : (K == 10) = false := by rw [beq_eq_false_iff_ne]; exact k10
  have b11 : (K == 11) = false := by rw [beq_eq_false_iff_ne]; exact k11
  have b12 : (K == 12) = false := by rw [beq_eq_false_iff_ne]; exact k12
  simp only [b8, b9, b10, b11, b12, cond_false, Option.bind_some]
  by_cases k13 : K = 13
  · subst k13
    unfold r20_other
    simp only [Int.reduceBEq, cond_true, cond_false, Option.bind_some, rbtest_eq hN h.brk]
    cases h1 : (s.Drive.State != 0) with
    | true => exact fin' (10, s) (by simp only [actS, Int.reduceBEq, cond_true, cond_false, h1]) (fun hz => by cases hz)
    | false => exact fin' ((testB s.Brakes n m s.Time).2, _) (by simp only [actS, Int.reduceBEq, cond_true, cond_false, h1]) (fun _ => by simp only [actS, Int.reduceBEq, cond_true, cond_false, h1]; rfl)
  by_cases k14 : K = 14
  · subst k14
    unfold r20_other
    simp only [Int.reduceBEq, cond_true, cond_false, Option.bind_some, rupdate_eq]
    exact fin' ((updA s.Wind n s.Time).2, _) rfl (fun _ => rfl)
  by_cases k15 : K = 15
  · subst k15
    unfold r20_other
    simp only [Int.reduceBEq, cond_true, cond_false, Option.bind_some, rsign_eq hN ck]
    exact fin' ((signC s.Checks n by' s.Time).2, _) rfl (fun _ => rfl)
  by_cases k16 : K = 16
  · subst k16
    unfold r20_other
    simp only [Int.reduceBEq, cond_true, cond_false, Option.bind_some, rjoin_eq (N := N) h.que, rsingle_eq (N := N) h.que, cond_or]
    cases h1 : (s.Mode != 1) with
    | true => exact fin' (10, s) (by simp only [actS, Int.reduceBEq, cond_true, cond_false, h1]) (fun hz => by cases hz)
    | false =>
      cases h2 : (m == 0) with
      | true =>
        have hm : m = 0 := by simpa using h2
        have d : (decide (m < 0) || decide (m > 1)) = false := by rw [hm]; rfl
        rw [d]
        exact fin' ((joinS s.Queue n).2, _) (by simp only [actS, Int.reduceBEq, cond_true, cond_false, h1, h2]) (fun _ => by simp only [actS, Int.reduceBEq, cond_true, cond_false, h1, h2]; rfl)
      | false =>
        cases h3 : (m == 1) with
        | true =>
          have hm : m = 1 := by simpa using h3
          have d : (decide (m < 0) || decide (m > 1)) = false := by rw [hm]; rfl
          rw [d]
          exact fin' ((singleS s.Queue n).2, _) (by simp only [actS, Int.reduceBEq, cond_true, cond_false, h1, h2, h3]) (fun _ => by simp only [actS, Int.reduceBEq, cond_true, cond_false, h1, h2, h3]; rfl)
        | false =>
          rw [beq_eq_false_iff_ne] at h2 h3
          have d : (decide (m < 0) || decide (m > 1)) = true := by simp only [Bool.or_eq_true, decide_eq_true_eq]; omega
          have h2' : (m == 0) = false := by rw [beq_eq_false_iff_ne]; exact h2
          have h3' : (m == 1) = false := by rw [beq_eq_false_iff_ne]; exact h3
          rw [d]
          exact fin' (2, s) (by simp only [actS, Int.reduceBEq, cond_true, cond_false, h1, h2', h3']) (fun hz => by cases hz)
  have b13 : (K == 13) = false := by rw [beq_eq_false_iff_ne]; exact k13
  have b14 : (K == 14) = false := by rw [beq_eq_false_iff_ne]; exact k14
  have b15 : (K == 15) = false := by rw [beq_eq_false_iff_ne]; exact k15
  have b16 : (K == 16) = false := by rw [beq_eq_false_iff_ne]; exact k16
  simp only [b13, b14, b15, b16, b18, cond_false, Option.bind_some]
  refine fin' (18, s) ?_ (fun hz => by cases hz)
  unfold actS
  simp only [b1, b2, b3, b17, b18, b19, b4, b5, b6, b7, b8, b9, b10, b11, b12, b13, b14, b15, b16, cond_false]
end
end Go.Proofs.YthjmbcnohgaihaaGreat

/- The lift: the laws LiftNews, LiftStates and LiftDoes in plain words. No condition. -/
namespace Go.Proofs.YthjmbcnohgaihaaGreat
open Go.Cm Go.Proofs
structure Len (s : LiftState) : Prop where
  brk : s.Brakes.length ≤ 900
  chn : s.Chain.Contacts.length ≤ 900
  line : s.Line.Load.length ≤ 900
  que : s.Queue.Groups.length ≤ 900
  its : s.Checks.Items.length ≤ 900
  sgn : s.Checks.Signs.length ≤ 900
theorem ok_len {s : LiftState} (h : Ok s) : Len s := by
  have cl := h.chn.len
  have ln := h.line.len
  have ql := h.que.len
  have bl := ((rightB_iff _).1 h.brk).1
  have ck := ck_ok h.chk
  have cki := ck.items
  have cks := ck.signs
  exact ⟨by omega, by omega, by omega, by omega, by omega, by omega⟩
theorem z_len : Len z_LiftState := ⟨Nat.zero_le _, Nat.zero_le _, Nat.zero_le _, Nat.zero_le _, Nat.zero_le _, Nat.zero_le _⟩
section
variable {N : Nat} (hN : 1000 < N)
include hN
theorem ints_refl (l : List Int) (hl : l.length ≤ 900) : r20_ints N l l = some true := by
  unfold r20_ints
  simp only [bne_self_eq_false, cond_false]
  rw [through () l.length (by omega) (fun i hi => ?_) (by simp)]
  · rfl
  · simp only [dlt hi, dge, Bool.and_self, cond_true, cond_false, wrapN (show i < 9223372036854775807 by omega)]
theorem lists_refl {s : LiftState} (h : Len s) : r20_lists N s s = some true := by
  have h1 := h.brk
  have h2 := h.chn
  have h3 := h.sgn
  unfold r20_lists
  simp only [bne_self_eq_false, cond_false, Option.bind_some]
  rw [through () s.Brakes.length (by omega) (fun i hi => ?_) (by simp), through () s.Chain.Contacts.length (by omega) (fun i hi => ?_) (by simp), through () s.Checks.Signs.length (by omega) (fun i hi => ?_) (by simp)]
  · rfl
  all_goals simp only [dlt hi, dge, Bool.and_self, cond_true, beq_self_eq_true, Bool.not_true, cond_false, wrapN (show i < 9223372036854775807 by omega)]
theorem same_refl {s : LiftState} (h : Len s) : r20_Same N s s = some true := by
  unfold r20_Same
  simp only [beq_self_eq_true, Bool.and_self, Bool.not_true, cond_false, bne_self_eq_false, Option.bind_some, ints_refl hN _ h.line, ints_refl hN _ h.que, ints_refl hN _ h.its, lists_refl hN h]
theorem new_both (x : Make) : ∃ r, l20_made N x = some r ∧ r20_New N x.Lift x.Motor x.Brakes x.Chain x.Wind x.Checks = some r ∧ Len r.1 ∧ (r.2 = 0 → Inv r.1) := by
  unfold l20_made lift_New r20_New
  simp only [ropeNew_eq, rropeNew_eq, Option.bind_some, bright_eq hN, Ch.right_eq hN, iright_eq hN, rbright_eq hN, Ch.rright_eq hN, riright_eq hN]
  cases h1 : ((newR x.Lift).2 != 0) with
  | true =>
    rw [bne_iff_ne] at h1
    exact ⟨_, rfl, rfl, z_len, fun h => absurd h h1⟩
  | false =>
    rw [bne_eq_false_iff_eq] at h1
    obtain ⟨b, e, hb⟩ := fits_eq (N := N) ((new_iff _).1 h1) x.Motor x.Wind 0
    obtain ⟨b', e', hb'⟩ := suits_eq (N := N) ((new_iff _).1 h1) x.Motor x.Wind 0
    have hbb : b' = b := by rw [Bool.eq_iff_iff, hb, hb']
    subst hbb
    rw [cond_false, cond_false, e, e', Option.bind_some, Option.bind_some]
    cases b' with
    | false => exact ⟨_, rfl, rfl, z_len, fun h => (by cases h)⟩
    | true =>
      have h2 := hb.1 rfl
      simp only [Bool.not_true, cond_false]
      cases h3 : (rightB x.Brakes != 0) with
      | true => rw [bne_iff_ne] at h3; exact ⟨_, rfl, rfl, z_len, fun h => absurd h h3⟩
      | false =>
        rw [bne_eq_false_iff_eq] at h3
        cases h4 : (Ch.rightS x.Chain != 0) with
        | true => rw [bne_iff_ne] at h4; exact ⟨_, rfl, rfl, z_len, fun h => absurd h h4⟩
        | false =>
          rw [bne_eq_false_iff_eq] at h4
          cases h5 : (rightC x.Checks != 0) with
          | true => rw [bne_iff_ne] at h5; exact ⟨_, rfl, rfl, z_len, fun h => absurd h h5⟩
          | false =>
            rw [bne_eq_false_iff_eq] at h5
            have inv := new_ok h1 h2 h3 h4 h5
            have ln := ok_len inv.ok
            have ec : lift_clone N (newL x.Lift x.Motor x.Brakes x.Chain x.Wind x.Checks) = some (newL x.Lift x.Motor x.Brakes x.Chain x.Wind x.Checks) := liftClone_eq _ ln.brk ln.chn ln.line ln.que ln.its ln.sgn
            simp only [cond_false]
            refine ⟨(newL x.Lift x.Motor x.Brakes x.Chain x.Wind x.Checks, 0), ?_, rfl, ln, fun _ => inv⟩
            show ((lift_clone N (newL x.Lift x.Motor x.Brakes x.Chain x.Wind x.Checks)).bind fun r11 => some (r11, (0 : Int))).bind _ = _
            rw [ec]
            rfl
theorem do_both (s : LiftState) (e : LiftEvent) : ∃ r, lift_Do N s e = some r ∧ r20_Do N s e = some r ∧ Len r.1 := by
  by_cases h : Ok s
  · refine ⟨doS s e, do_eq hN h e, rdo_eq hN h e, ?_⟩
    by_cases hz : (doS s e).2 = 0
    · exact ok_len (do_ok h hz)
    · unfold doS at hz ⊢
      cases h1 : ((actS s e).2 != 0) with
      | true => exact z_len
      | false => rw [h1] at hz; exact absurd rfl hz
  · exact ⟨(z_LiftState, 1), do_bad hN h e, rdo_bad hN h e, z_len⟩
end
theorem t_LiftNews : AllW (fun y => y = some true) [TI.t_Make] (l20_LiftNews 2000) := fun (x : Make) _ => by
  show l20_LiftNews 2000 x = some true
  have hN : 1000 < 2000 := by omega
  unfold l20_LiftNews
  rw [alive_ok]
  obtain ⟨b, e2⟩ := small_eq (N := 2000) x
  obtain ⟨r, e3, e4, ln, inv⟩ := new_both hN x
  simp only [Option.bind_some, Bool.not_true, cond_false, e2]
  cases b with
  | false => rfl
  | true =>
    simp only [Bool.not_true, cond_false, e3, e4, Option.bind_some, beq_self_eq_true, cond_true, same_refl hN ln]
    cases hz : (r.2 != 0) with
    | true => rfl
    | false =>
      rw [bne_eq_false_iff_eq] at hz
      rw [cond_false, right_ok hN (inv hz).ok]
      rfl
theorem t_LiftStates : AllW (fun y => y = some true) [TI.t_LiftState, TI.t_LiftEvent] (l20_LiftStates 2000) := fun (s : LiftState) _ (e : LiftEvent) _ => by
  show l20_LiftStates 2000 s e = some true
  have hN : 1000 < 2000 := by omega
  unfold l20_LiftStates
  rw [alive_ok]
  have ec : ∃ b, l20_compact 2000 s = some b := by
    obtain ⟨b, e2⟩ := small_eq (N := 2000) (Make.mk z_Lift z_Motor s.Brakes s.Chain z_Alarm s.Checks)
    unfold l20_compact
    rw [e2]
    simp only [Option.bind_some, cond_and]
    exact ⟨_, rfl⟩
  obtain ⟨b, eb⟩ := ec
  simp only [Option.bind_some, Bool.not_true, cond_false, eb]
  cases b with
  | false => rfl
  | true =>
    obtain ⟨b1, e1, hb1⟩ := right_eq hN s
    obtain ⟨b2, e2, hb2⟩ := rright_eq hN s
    have hbb : b2 = b1 := by rw [Bool.eq_iff_iff, hb1, hb2]
    subst hbb
    obtain ⟨r, e3, e4, ln⟩ := do_both hN s e
    have hsafe : ∃ c, lift_Safe 2000 s = some c ∧ r20_Safe 2000 s = some c := by
      unfold lift_Safe r20_Safe
      rw [e1, e2]
      cases b2 with
      | false => exact ⟨_, rfl, rfl⟩
      | true =>
        have ok := hb1.1 rfl
        simp only [Option.bind_some, Bool.not_true, cond_false, may_eq hN ok, rmay_eq hN ok]
        cases (s.Drive.State != 1) with
        | true => exact ⟨_, rfl, rfl⟩
        | false =>
          have a1 : (mayS s != 0) = !(mayS s == 0) := rfl
          have a2 : (s.Mode != 0) = !(s.Mode == 0) := rfl
          rw [a1, a2]
          cases (mayS s == 0) <;> cases (s.Mode == 0) <;> cases (s.Mode != 2) <;> exact ⟨_, rfl, rfl⟩
    obtain ⟨c, c1, c2⟩ := hsafe
    simp only [Bool.not_true, cond_false, e1, e2, Option.bind_some, beq_self_eq_true, c1, c2, e3, e4, cond_true, same_refl hN ln]
    cases b2 with
    | false => rfl
    | true =>
      have ok := hb1.1 rfl
      obtain ⟨l1, l2⟩ := rload20_eq hN ok
      simp only [cond_true, l1, l2, may_eq hN ok, rmay_eq hN ok, Option.bind_some, bne_self_eq_false, cond_false]
theorem t_LiftDoes : AllW (fun y => y = some true) [TI.t_Make, TI.l_LiftEvent] (l20_LiftDoes 2000) := fun (x : Make) _ (l : List LiftEvent) _ => by
  show l20_LiftDoes 2000 x l = some true
  have hN : 1000 < 2000 := by omega
  unfold l20_LiftDoes
  rw [alive_ok]
  obtain ⟨b, e2⟩ := small_eq (N := 2000) x
  obtain ⟨r, e3, e4, ln, inv⟩ := new_both hN x
  simp only [Option.bind_some, Bool.not_true, cond_false, e2, e4]
  cases b with
  | false => rfl
  | true =>
    simp only [Bool.not_true, cond_false, cond_or, Option.bind_some]
    cases hc : (decide ((l.length : Int) > 60) || r.2 != 0) with
    | true => rfl
    | false =>
      simp only [Bool.or_eq_false_iff, decide_eq_false_iff_not, bne_eq_false_iff_eq] at hc
      have h0 := inv hc.2
      simp only [cond_false]
      refine (bindT (fun i => ((i : Int), (l.take i).foldl aft r.1)) rfl (Sum.inl (l.foldl aft r.1)) l.length (show l.length < 2000 by omega) (fun i hi => ?_) ?_).trans ?_
      · have a := fold_inv h0 (l.take i)
        have e5 : (l.take (i + 1)).foldl aft r.1 = aft ((l.take i).foldl aft r.1) (l.getD i z_LiftEvent) := by
          rw [take_getD l i z_LiftEvent hi, List.foldl_append]
          rfl
        rw [e5]
        generalize (l.take i).foldl aft r.1 = q at a ⊢
        obtain ⟨r', f1, f2, f3⟩ := do_both hN q (l.getD i z_LiftEvent)
        have f4 : r' = doS q (l.getD i z_LiftEvent) := by
          rw [do_eq hN a.ok] at f1
          injection f1 with f1
          exact f1.symm
        simp only [dlt hi, dge, Bool.and_self, cond_true, Int.toNat_natCast, f1, f2, Option.bind_some, bne_self_eq_false, cond_false, same_refl hN f3, Bool.not_true, wrapC (show i < 9223372036854775807 by omega)]
        unfold aft
        rw [← f4]
        cases (r'.2 == 0) <;> rfl
      · simp only [dnlt, cond_false, List.take_length]
      · rfl
end Go.Proofs.YthjmbcnohgaihaaGreat

