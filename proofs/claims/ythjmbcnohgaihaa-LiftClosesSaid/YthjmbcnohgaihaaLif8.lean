/- The lift: a lift that is right stays right, whatever is done. No condition. -/
import Derived.Test.YthjmbcnohgaihaaLif7
namespace Go.Proofs.Ythjmbcnohgaihaa
open Go.Cm Go.Proofs
theorem people_nonneg {b : Int} {s : LiftState} (h : OkB b s) : 0 ≤ peopleS s.Line ∧ peopleS s.Line ≤ 3200 := by
  obtain ⟨_, _, _, f4, f5, _⟩ := id h.fit
  have a := sum_le (b := 16) (l := s.Line.Load) (fun j hj => by have := h.line.load j hj; omega) s.Line.Load.length (Nat.le_refl _)
  have l := h.line.len
  rw [List.take_length] at a
  unfold peopleS
  omega
theorem OkB.mono {a b : Int} {s : LiftState} (h : OkB a s) (hab : a ≤ b) : OkB b s :=
  ⟨h.new, h.loop, h.spc, h.cnt, h.time, h.fit, h.drv, h.line, h.que, h.brk, h.chn, h.chk, h.mode, ⟨h.up.1, Int.le_trans h.up.2 hab⟩, ⟨h.off.1, Int.le_trans h.off.2 hab⟩, h.ppl⟩
theorem setDrive_ok {b : Int} {s : LiftState} (h : OkB b s) {d : Drive} (hd : Vd s.Motor d) : OkB b (setDrive s d) :=
  ⟨h.new, h.loop, h.spc, h.cnt, h.time, h.fit, hd, h.line, h.que, h.brk, h.chn, h.chk, h.mode, h.up, h.off, h.ppl⟩
theorem setChain_ok {b : Int} {s : LiftState} (h : OkB b s) {c : Chain} (hc : Ch.Val c) : OkB b (setChain s c) :=
  ⟨h.new, h.loop, h.spc, h.cnt, h.time, h.fit, h.drv, h.line, h.que, h.brk, hc, h.chk, h.mode, h.up, h.off, h.ppl⟩
theorem setMode_ok {b : Int} {s : LiftState} (h : OkB b s) {m : Int} (hm : 0 ≤ m ∧ m ≤ 3) : OkB b (setMode s m) :=
  ⟨h.new, h.loop, h.spc, h.cnt, h.time, h.fit, h.drv, h.line, h.que, h.brk, h.chn, h.chk, hm, h.up, h.off, h.ppl⟩
theorem setQueue_ok {b : Int} {s : LiftState} (h : OkB b s) {q : Queue} (hq : QOk q) : OkB b (setQueue s q) :=
  ⟨h.new, h.loop, h.spc, h.cnt, h.time, h.fit, h.drv, h.line, hq, h.brk, h.chn, h.chk, h.mode, h.up, h.off, h.ppl⟩
theorem exp_val {c : Chain} (v : Ch.Val c) (t : Int) : Ch.Val (Ch.expS c t) := Ch.Did.val v (Ch.did (c := c) (x := ⟨5, 0, 0, t⟩) rfl)
theorem guard1_ok {b : Int} {s : LiftState} (h : OkB b s) : OkB b (guard1 s) := by
  have m := h.mode
  refine ⟨h.new, h.loop, h.spc, h.cnt, h.time, h.fit, h.drv, h.line, h.que, h.brk, exp_val h.chn _, h.chk, ?_, h.up, h.off, h.ppl⟩
  unfold guard1
  simp only
  cases (s.Mode == 3 && peopleS s.Line == 0) with
  | true => simp
  | false => exact m
theorem guard2_ok {b : Int} {s : LiftState} (h : OkB b s) : OkB b (guard2 s) := by
  unfold guard2
  cases (s.Drive.State != 1) with
  | true => exact h
  | false =>
    cases (s.Mode == 0) with
    | true => exact setDrive_ok h (halt_ok h.drv).1
    | false =>
      cases (mayS s == 0) with
      | true => exact h
      | false =>
        cases (mayS s == 13 || mayS s == 14) with
        | true => exact setDrive_ok h (emer_ok h.drv).1
        | false => exact setDrive_ok h (halt_ok h.drv).1
theorem guard_ok {b : Int} {s : LiftState} (h : OkB b s) : OkB b (guardS s) := guard2_ok (guard1_ok h)
theorem seat_ok {q : Queue} (h : QOk q) {seats : Int} (h1 : 1 ≤ seats) (h2 : seats ≤ 16) : QOk (seatS q seats).1 ∧ qlen (seatS q seats).1 + (seatS q seats).2 = qlen q ∧ 0 ≤ (seatS q seats).2 ∧ (seatS q seats).2 ≤ seats := by
  obtain ⟨r, e, _, a, b, c, d⟩ := seat_eq (N := 2000) (by decide) h h1 h2
  rw [seat_ex (by decide) h h1 h2] at e
  cases e
  exact ⟨a, b, c, d⟩
theorem join_ok {q : Queue} (h : QOk q) {n : Int} (hz : (joinS q n).2 = 0) : QOk (joinS q n).1 ∧ qlen (joinS q n).1 = qlen q + n := by
  obtain ⟨r, e, a⟩ := join_eq (N := 2000) h n
  rw [join_ex h] at e
  cases e
  exact a hz
theorem single_ok {q : Queue} (h : QOk q) {n : Int} (hz : (singleS q n).2 = 0) : QOk (singleS q n).1 ∧ qlen (singleS q n).1 = qlen q + n := by
  obtain ⟨r, e, a⟩ := single_eq (N := 2000) h n
  rw [single_ex h] at e
  cases e
  exact a hz
/-! a second -/
theorem speed_ok {b : Int} {s : LiftState} (h : OkB b s) : 0 ≤ (stepD s.Motor s.Drive).Speed ∧ 2 * (stepD s.Motor s.Drive).Speed ≤ s.Line.Spacing := by
  obtain ⟨f1, _, f3, _⟩ := id h.fit
  have v := (step_eq (N := 2000) (by decide) f1 h.drv).2.speed
  have := h.spc
  omega
theorem second1_ok {b : Int} {s : LiftState} (h : OkB b s) (ht : s.Time + 1 ≤ 20000000) : OkB b (second1 s) := by
  obtain ⟨f1, f2, f3, f4, f5, f6⟩ := id h.fit
  have sp := speed_ok h
  have t := h.time
  have ssp := h.line.spc
  have mo := move_ok h.line sp.1 (by omega)
  have lb := leftR_bound (d := (stepD s.Motor s.Drive).Speed) h.line s.Line.Load.length (Nat.le_refl _)
  have mp := move_people (l := s.Line) (stepD s.Motor s.Drive).Speed
  have pn := people_nonneg h
  have pp := h.ppl
  have u := h.up
  have o := h.off
  have pn' : 0 ≤ peopleS (moveR s.Line (stepD s.Motor s.Drive).Speed) := by
    have a := sum_le (b := 16) (l := (moveR s.Line (stepD s.Motor s.Drive).Speed).Load) (fun j hj => by have := mo.load j hj; omega) (moveR s.Line (stepD s.Motor s.Drive).Speed).Load.length (Nat.le_refl _)
    rw [List.take_length] at a
    exact a.1
  refine ⟨h.new, h.loop, h.spc, ?_, ⟨?_, ht⟩, ⟨f1, f2, f3, f4, f5, badA_later f6 (by show s.Time ≤ s.Time + 1; omega) ht⟩, (step_eq (N := 2000) (by decide) f1 h.drv).2, mo, h.que, h.brk, h.chn, h.chk, h.mode, u, ⟨?_, ?_⟩, ?_⟩
  · show ((ldsR s.Line _).length : Int) = _
    rw [ldsR_len]
    exact h.cnt
  · show 0 ≤ s.Time + 1
    omega
  · show 0 ≤ s.Off + leftR s.Line _ _
    omega
  · show s.Off + leftR s.Line _ _ ≤ b
    omega
  · show s.Up - (s.Off + leftR s.Line _ _) = peopleS (moveR s.Line _)
    omega
theorem pass_idx {b : Int} {s : LiftState} (h : OkB b s) (hp : passS s ≥ 0) : ∃ i : Nat, passS s = i ∧ i < s.Line.Load.length ∧ posR (second1 s).Line i < s.Line.Spacing ∧ posR (second1 s).Line i < s.Line.Loop / 2 ∧ (second1 s).Line.Load.getD i 0 = 0 := by
  have sp := speed_ok h
  unfold passS at *
  rcases passR_spec (l := s.Line) (d := (stepD s.Motor s.Drive).Speed) s.Line.Load.length with h0 | ⟨i, a, e, c⟩
  · omega
  · obtain ⟨p1, p2, p3⟩ := pass_free h.line sp.1 sp.2 a c
    exact ⟨i, e, a, p1, p2, p3⟩
theorem board_ok {b : Int} {s : LiftState} (h : OkB b s) {i : Nat} (hi : i < s.Line.Load.length) (hp : posR s.Line i < s.Line.Loop / 2) (hz : s.Line.Load.getD i 0 = 0) : OkB (b + 16) (boardS s i) := by
  obtain ⟨f1, f2, f3, f4, f5, f6⟩ := id h.fit
  obtain ⟨q1, q2, q3, q4⟩ := seat_ok h.que f4 f5
  have so := set_ok h.line hi q3 q4 fun _ => hp
  have sp := set_people s.Line hi (seatS s.Queue s.Lift.Seats).2
  have pp := h.ppl
  have u := h.up
  have o := h.off
  refine ⟨h.new, h.loop, h.spc, ?_, h.time, h.fit, h.drv, so, q1, h.brk, h.chn, h.chk, h.mode, ⟨?_, ?_⟩, ⟨o.1, ?_⟩, ?_⟩
  · show ((s.Line.Load.set i _).length : Int) = _
    rw [List.length_set]
    exact h.cnt
  · show 0 ≤ s.Up + _
    omega
  · show s.Up + _ ≤ b + 16
    omega
  · show s.Off ≤ b + 16
    omega
  · show s.Up + _ - s.Off = peopleS (setR s.Line i _)
    omega
theorem second2_ok {b : Int} {s : LiftState} (h : OkB b s) (ht : s.Time + 1 ≤ 20000000) : OkB (b + 16) (second2 s) := by
  have h1 := second1_ok h ht
  unfold second2
  cases hc : (decide (passS s ≥ 0) && s.Mode == 1) with
  | false => exact h1.mono (by omega)
  | true =>
    rw [Bool.and_eq_true, decide_eq_true_eq] at hc
    obtain ⟨i, e, a, p1, p2, p3⟩ := pass_idx h hc.1
    rw [cond_true, e, Int.toNat_natCast]
    refine board_ok h1 ?_ p2 p3
    show i < (ldsR s.Line _).length
    rw [ldsR_len]
    exact a
theorem guardS_time (s : LiftState) : (guardS s).Time = s.Time := by
  unfold guardS guard2
  cases ((guard1 s).Drive.State != 1) <;> cases ((guard1 s).Mode == 0) <;> cases (mayS (guard1 s) == 0) <;> cases (mayS (guard1 s) == 13 || mayS (guard1 s) == 14) <;> rfl
theorem second2_time (s : LiftState) : (second2 s).Time = s.Time + 1 := by
  unfold second2
  cases (decide (passS s ≥ 0) && s.Mode == 1) <;> rfl
theorem tickN_time (s : LiftState) (k : Nat) : (tickN s k).Time = s.Time + k := by
  induction k with
  | zero => show s.Time = s.Time + ((0 : Nat) : Int); omega
  | succ k ih =>
    show (guardS (second2 (tickN s k))).Time = _
    rw [guardS_time, second2_time, ih]
    omega
theorem tickN_ok {b : Int} {s : LiftState} (h : OkB b s) (k : Nat) (ht : s.Time + k ≤ 20000000) : OkB (b + 16 * k) (tickN s k) := by
  induction k with
  | zero => exact h.mono (by omega)
  | succ k ih =>
    have := ih (by omega)
    have t := tickN_time s k
    exact (guard_ok (second2_ok this (by omega))).mono (by omega)
/-! the events -/
inductive Did (s : LiftState) (e : LiftEvent) : LiftState → Prop
  | tick (hk : e.Kind = 1) (hn : 1 ≤ e.N ∧ e.N ≤ 600) (ht : s.Time + e.N ≤ 20000000) (hu : (tickN s e.N.toNat).Up ≤ 1125899906842624 ∧ (tickN s e.N.toNat).Off ≤ 1125899906842624) : Did s e (tickN s e.N.toNat)
  | open (hk : e.Kind = 2) (hm : s.Mode = 0) (hy : mayS s = 0) : Did s e (setMode s 1)
  | close (hk : e.Kind = 3) (hm : s.Mode = 1) : Did s e (setMode (setQueue s z_Queue) 3)
  | rescue (hk : e.Kind = 17) (hm : s.Mode ≠ 0 ∧ s.Mode ≠ 2) (hs : s.Drive.Speed = 0) (ht : s.Drive.State = 1 → s.Drive.Target ≤ 1000) : Did s e (setMode (setQueue s z_Queue) 2)
  | rescueH (hk : e.Kind = 17) (hm : s.Mode ≠ 0 ∧ s.Mode ≠ 2) (hs : s.Drive.Speed = 0) : Did s e (setMode (setQueue (setDrive s (haltD s.Drive)) z_Queue) 2)
  | bring (hk : e.Kind = 18) (hm : s.Mode = 2) (i : Nat) (hi : i < s.Line.Load.length) (hn : 0 ≤ e.N ∧ e.N ≤ s.Line.Load.getD i 0) (ho : s.Off + e.N ≤ 1125899906842624) : Did s e (setLine s (setR s.Line i (s.Line.Load.getD i 0 - e.N)) (s.Off + e.N))
  | rescued (hk : e.Kind = 19) (hm : s.Mode = 2) : Did s e (setMode s 0)
  | start (hk : e.Kind = 4) (hm : s.Mode ≠ 0) (hn : s.Mode = 2 → e.N ≤ 1000) (hz : (startD s.Motor s.Drive e.N).2 = 0) : Did s e (setDrive s (startD s.Motor s.Drive e.N).1)
  | stop (hk : e.Kind = 5) : Did s e (setDrive s (haltD s.Drive))
  | emerge (hk : e.Kind = 6) : Did s e (setDrive s (emerD s.Drive))
  | reset (hk : e.Kind = 7) (hz : (resetD s.Drive).2 = 0) : Did s e (setDrive s (resetD s.Drive).1)
  | chain (hk : 8 ≤ e.Kind ∧ e.Kind ≤ 12) (c : Chain) (hc : Ch.Val s.Chain → Ch.Val c) : Did s e (setChain s c)
  | test (hk : e.Kind = 13) (hz : (testB s.Brakes e.N e.M s.Time).2 = 0) : Did s e (setBrakes s (testB s.Brakes e.N e.M s.Time).1)
  | gust (hk : e.Kind = 14) (hz : (updA s.Wind e.N s.Time).2 = 0) : Did s e (setWind s (updA s.Wind e.N s.Time).1)
  | sign (hk : e.Kind = 15) (hz : (signC s.Checks e.N e.By s.Time).2 = 0) : Did s e (setChecks s (signC s.Checks e.N e.By s.Time).1)
  | join (hk : e.Kind = 16) (hm : s.Mode = 1) (hz : (joinS s.Queue e.N).2 = 0) : Did s e (setQueue s (joinS s.Queue e.N).1)
  | single (hk : e.Kind = 16) (hm : s.Mode = 1) (hz : (singleS s.Queue e.N).2 = 0) : Did s e (setQueue s (singleS s.Queue e.N).1)
theorem did_rescue {s : LiftState} {e : LiftEvent} (hk : e.Kind = 17) (hz : (rescueS s).2 = 0) : Did s e (rescueS s).1 := by
  unfold rescueS at *
  cases h1 : (s.Mode == 0 || s.Mode == 2) with
  | true => rw [h1] at hz; cases hz
  | false =>
    cases h2 : (s.Drive.Speed != 0) with
    | true => rw [h1, h2] at hz; cases hz
    | false =>
      simp only [cond_false]
      simp only [Bool.or_eq_false_iff, beq_eq_false_iff_ne] at h1
      rw [bne_eq_false_iff_eq] at h2
      cases h3 : (s.Drive.State == 1 && decide (s.Drive.Target > 1000)) with
      | true => exact .rescueH hk h1 h2
      | false =>
        rw [Bool.and_eq_false_iff, beq_eq_false_iff_ne, decide_eq_false_iff_not] at h3
        exact .rescue hk h1 h2 fun h => by rcases h3 with h3 | h3 <;> omega
theorem did_bring {s : LiftState} {e : LiftEvent} (hk : e.Kind = 18) (hz : (bringS s e.M e.N).2 = 0) : Did s e (bringS s e.M e.N).1 := by
  unfold bringS takeR at *
  cases h1 : (s.Mode != 2) with
  | true => rw [h1] at hz; cases hz
  | false =>
    cases h2 : (s.Drive.Speed != 0) with
    | true => rw [h1, h2] at hz; cases hz
    | false =>
      cases h3 : (!(decide (e.M ≥ 0) && decide (e.M < (s.Line.Load.length : Int)))) with
      | true => rw [h1, h2, h3] at hz; cases hz
      | false =>
        cases h4 : (decide (e.N < 0) || decide (e.N > s.Line.Load.getD e.M.toNat 0)) with
        | true => rw [h1, h2, h3, h4] at hz; cases hz
        | false =>
          cases h5 : decide (s.Off + e.N > 1125899906842624) with
          | true => rw [h1, h2, h3, h4, h5] at hz; cases hz
          | false =>
            simp only [Bool.not_eq_false', Bool.and_eq_true, Bool.or_eq_false_iff, decide_eq_true_eq, decide_eq_false_iff_not, bne_eq_false_iff_eq] at h1 h3 h4 h5
            exact .bring hk h1 e.M.toNat (by omega) (by omega) (by omega)
theorem act_did {s : LiftState} {e : LiftEvent} (hz : (actS s e).2 = 0) : Did s e (actS s e).1 := by
  unfold actS at *
  cases k1 : e.Kind == 1 with
  | true =>
    rw [k1, cond_true] at hz
    rw [beq_iff_eq] at k1
    rw [cond_true]
    unfold tickS at *
    cases h1 : (decide (e.N < 1) || (decide (e.N > 600) || decide (s.Time + e.N > 20000000))) with
    | true => rw [h1] at hz; cases hz
    | false =>
      cases h2 : (decide ((tickN s e.N.toNat).Up > 1125899906842624) || decide ((tickN s e.N.toNat).Off > 1125899906842624)) with
      | true => rw [h1, h2] at hz; cases hz
      | false =>
        simp only [Bool.or_eq_false_iff, decide_eq_false_iff_not] at h1 h2
        exact .tick k1 (by omega) (by omega) (by omega)
  | false =>
  rw [k1, cond_false] at hz
  rw [cond_false]
  cases k2 : e.Kind == 2 with
  | true =>
    rw [k2, cond_true] at hz
    rw [beq_iff_eq] at k2
    rw [cond_true]
    cases h1 : (s.Mode != 0) with
    | true => rw [h1] at hz; cases hz
    | false =>
      cases h2 : (mayS s != 0) with
      | true => rw [h1, h2] at hz; rw [bne_iff_ne] at h2; exact absurd hz h2
      | false => rw [bne_eq_false_iff_eq] at h1 h2; exact .open k2 h1 h2
  | false =>
  rw [k2, cond_false] at hz
  rw [cond_false]
  cases k3 : e.Kind == 3 with
  | true =>
    rw [k3, cond_true] at hz
    rw [beq_iff_eq] at k3
    rw [cond_true]
    cases h1 : (s.Mode != 1) with
    | true => rw [h1] at hz; cases hz
    | false => rw [bne_eq_false_iff_eq] at h1; exact .close k3 h1
  | false =>
  rw [k3, cond_false] at hz
  rw [cond_false]
  cases k17 : e.Kind == 17 with
  | true =>
    rw [k17, cond_true] at hz
    rw [beq_iff_eq] at k17
    exact did_rescue k17 hz
  | false =>
  rw [k17, cond_false] at hz
  rw [cond_false]
  cases k18 : e.Kind == 18 with
  | true =>
    rw [k18, cond_true] at hz
    rw [beq_iff_eq] at k18
    exact did_bring k18 hz
  | false =>
  rw [k18, cond_false] at hz
  rw [cond_false]
  cases k19 : e.Kind == 19 with
  | true =>
    rw [k19, cond_true] at hz
    rw [beq_iff_eq] at k19
    rw [cond_true]
    cases h1 : (s.Mode != 2) with
    | true => rw [h1] at hz; cases hz
    | false =>
      cases h2 : decide (peopleS s.Line > 0) with
      | true => rw [h1, h2] at hz; cases hz
      | false => rw [bne_eq_false_iff_eq] at h1; exact .rescued k19 h1
  | false =>
  rw [k19, cond_false] at hz
  rw [cond_false]
  cases k4 : e.Kind == 4 with
  | true =>
    rw [k4, cond_true] at hz
    rw [beq_iff_eq] at k4
    rw [cond_true]
    cases h1 : (s.Mode == 0) with
    | true => rw [h1] at hz; cases hz
    | false =>
      cases h2 : (s.Mode == 2 && decide (e.N > 1000)) with
      | true => rw [h1, h2] at hz; cases hz
      | false =>
        cases h3 : (mayS s != 0) with
        | true => rw [h1, h2, h3] at hz; rw [bne_iff_ne] at h3; exact absurd hz h3
        | false =>
          rw [h1, h2, h3] at hz
          rw [beq_eq_false_iff_ne] at h1
          rw [Bool.and_eq_false_iff, beq_eq_false_iff_ne, decide_eq_false_iff_not] at h2
          exact .start k4 h1 (fun h => by rcases h2 with h2 | h2 <;> omega) hz
  | false =>
  rw [k4, cond_false] at hz
  rw [cond_false]
  cases k5 : e.Kind == 5 with
  | true => rw [beq_iff_eq] at k5; exact .stop k5
  | false =>
  rw [k5, cond_false] at hz
  rw [cond_false]
  cases k6 : e.Kind == 6 with
  | true => rw [beq_iff_eq] at k6; exact .emerge k6
  | false =>
  rw [k6, cond_false] at hz
  rw [cond_false]
  cases k7 : e.Kind == 7 with
  | true => rw [k7] at hz; rw [beq_iff_eq] at k7; exact .reset k7 hz
  | false =>
  rw [k7, cond_false] at hz
  rw [cond_false]
  cases k8 : e.Kind == 8 with
  | true => rw [k8] at hz; rw [beq_iff_eq] at k8; exact .chain (by omega) _ fun v => Ch.Did.val v (Ch.did (c := s.Chain) (x := ⟨0, e.N, 0, 0⟩) hz)
  | false =>
  rw [k8, cond_false] at hz
  rw [cond_false]
  cases k9 : e.Kind == 9 with
  | true => rw [k9] at hz; rw [beq_iff_eq] at k9; exact .chain (by omega) _ fun v => Ch.Did.val v (Ch.did (c := s.Chain) (x := ⟨1, e.N, 0, 0⟩) hz)
  | false =>
  rw [k9, cond_false] at hz
  rw [cond_false]
  cases k10 : e.Kind == 10 with
  | true => rw [k10] at hz; rw [beq_iff_eq] at k10; exact .chain (by omega) _ fun v => Ch.Did.val v (Ch.did (c := s.Chain) (x := ⟨2, e.N, e.By, 0⟩) hz)
  | false =>
  rw [k10, cond_false] at hz
  rw [cond_false]
  cases k11 : e.Kind == 11 with
  | true => rw [k11] at hz; rw [beq_iff_eq] at k11; exact .chain (by omega) _ fun v => Ch.Did.val v (Ch.did (c := s.Chain) (x := ⟨3, 0, e.By, 0⟩) hz)
  | false =>
  rw [k11, cond_false] at hz
  rw [cond_false]
  cases k12 : e.Kind == 12 with
  | true =>
    rw [k12, cond_true] at hz
    rw [beq_iff_eq] at k12
    rw [cond_true]
    cases h1 : (decide (e.M < 1) || decide (e.M > 3600)) with
    | true => rw [h1] at hz; cases hz
    | false =>
      rw [h1] at hz
      exact .chain (by omega) _ fun v => Ch.Did.val v (Ch.did (c := s.Chain) (x := ⟨4, e.N, e.By, s.Time + e.M⟩) hz)
  | false =>
  rw [k12, cond_false] at hz
  rw [cond_false]
  cases k13 : e.Kind == 13 with
  | true =>
    rw [k13, cond_true] at hz
    rw [beq_iff_eq] at k13
    rw [cond_true]
    cases h1 : (s.Drive.State != 0) with
    | true => rw [h1] at hz; cases hz
    | false => rw [h1] at hz; exact .test k13 hz
  | false =>
  rw [k13, cond_false] at hz
  rw [cond_false]
  cases k14 : e.Kind == 14 with
  | true => rw [k14] at hz; rw [beq_iff_eq] at k14; exact .gust k14 hz
  | false =>
  rw [k14, cond_false] at hz
  rw [cond_false]
  cases k15 : e.Kind == 15 with
  | true => rw [k15] at hz; rw [beq_iff_eq] at k15; exact .sign k15 hz
  | false =>
  rw [k15, cond_false] at hz
  rw [cond_false]
  cases k16 : e.Kind == 16 with
  | true =>
    rw [k16, cond_true] at hz
    rw [beq_iff_eq] at k16
    rw [cond_true]
    cases h1 : (s.Mode != 1) with
    | true => rw [h1] at hz; cases hz
    | false =>
      cases h2 : (e.M == 0) with
      | true => rw [h1, h2] at hz; rw [bne_eq_false_iff_eq] at h1; exact .join k16 h1 hz
      | false =>
        cases h3 : (e.M == 1) with
        | true => rw [h1, h2, h3] at hz; rw [bne_eq_false_iff_eq] at h1; exact .single k16 h1 hz
        | false => rw [h1, h2, h3] at hz; cases hz
  | false => rw [k16] at hz; cases hz
theorem did_ok {s s' : LiftState} {e : LiftEvent} (h : Ok s) (d : Did s e s') : Ok s' := by
  have md := h.mode
  cases d with
  | tick hk hn ht hu =>
    have a := tickN_ok h e.N.toNat (by omega)
    exact ⟨a.new, a.loop, a.spc, a.cnt, a.time, a.fit, a.drv, a.line, a.que, a.brk, a.chn, a.chk, a.mode, ⟨a.up.1, hu.1⟩, ⟨a.off.1, hu.2⟩, a.ppl⟩
  | «open» hk hm hy => exact setMode_ok h (by omega)
  | close hk hm => exact setMode_ok (setQueue_ok h qok_empty) (by omega)
  | rescue hk hm hs => exact setMode_ok (setQueue_ok h qok_empty) (by omega)
  | rescueH hk hm hs => exact setMode_ok (setQueue_ok (setDrive_ok h (halt_ok h.drv).1) qok_empty) (by omega)
  | bring hk hm i hi hn ho =>
    have q := h.line.load i hi
    have so := set_ok (n := s.Line.Load.getD i 0 - e.N) h.line hi (by omega) (by omega) fun hne => q.2.2 (by omega)
    have sp := set_people s.Line hi (s.Line.Load.getD i 0 - e.N)
    have pp := h.ppl
    have o := h.off
    refine ⟨h.new, h.loop, h.spc, ?_, h.time, h.fit, h.drv, so, h.que, h.brk, h.chn, h.chk, h.mode, h.up, ⟨?_, ho⟩, ?_⟩
    · show ((s.Line.Load.set i _).length : Int) = _
      rw [List.length_set]
      exact h.cnt
    · show 0 ≤ s.Off + e.N
      omega
    · show s.Up - (s.Off + e.N) = peopleS (setR s.Line i _)
      omega
  | rescued hk hm => exact setMode_ok h (by omega)
  | start hk hm hn hz => exact setDrive_ok h (start_ok h.drv hz).1
  | stop hk => exact setDrive_ok h (halt_ok h.drv).1
  | emerge hk => exact setDrive_ok h (emer_ok h.drv).1
  | reset hk hz => exact setDrive_ok h (reset_ok h.drv hz).1
  | chain hk c hc => exact setChain_ok h (hc h.chn)
  | test hk hz => exact ⟨h.new, h.loop, h.spc, h.cnt, h.time, h.fit, h.drv, h.line, h.que, testB_ok h.brk hz, h.chn, h.chk, h.mode, h.up, h.off, h.ppl⟩
  | gust hk hz =>
    obtain ⟨f1, f2, f3, f4, f5, f6⟩ := id h.fit
    exact ⟨h.new, h.loop, h.spc, h.cnt, h.time, ⟨f1, f2, f3, f4, f5, updA_ok f6 (Int.le_refl _) h.time.2 hz⟩, h.drv, h.line, h.que, h.brk, h.chn, h.chk, h.mode, h.up, h.off, h.ppl⟩
  | sign hk hz => exact ⟨h.new, h.loop, h.spc, h.cnt, h.time, h.fit, h.drv, h.line, h.que, h.brk, h.chn, signC_ok hz, h.mode, h.up, h.off, h.ppl⟩
  | join hk hm hz => exact setQueue_ok h (join_ok h.que hz).1
  | single hk hm hz => exact setQueue_ok h (single_ok h.que hz).1
theorem do_ok {s : LiftState} {e : LiftEvent} (h : Ok s) (hz : (doS s e).2 = 0) : Ok (doS s e).1 := by
  unfold doS at *
  cases h1 : ((actS s e).2 != 0) with
  | true => rw [h1] at hz; rw [bne_iff_ne] at h1; exact absurd hz h1
  | false =>
    rw [bne_eq_false_iff_eq] at h1
    have a := did_ok h (act_did h1)
    rw [cond_false]
    cases (e.Kind == 1) with
    | true => exact a
    | false => exact guard_ok a
end Go.Proofs.Ythjmbcnohgaihaa
