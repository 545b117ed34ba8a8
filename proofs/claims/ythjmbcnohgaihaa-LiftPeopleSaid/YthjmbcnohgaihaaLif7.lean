/- The lift as plain functions: Right, May, the guard, a second, the events. No condition. -/
import Derived.Test.YthjmbcnohgaihaaLif6
namespace Go.Proofs.Ythjmbcnohgaihaa
open Go.Cm Go.Proofs
def badN (l : Lift) : Bool := decide (l.Length < 10) || (decide (l.Length > 6000) || (decide (l.Spacing < 5) || decide (l.Spacing > 1000)))
def cntN (l : Lift) : Int := 2 * l.Length / l.Spacing
def newR (l : Lift) : Line × Int := bif badN l then (z_Line, 1) else bif (cntN l * l.Spacing != 2 * l.Length) || decide (cntN l > 200) then (z_Line, 1) else (⟨2000 * l.Length, 1000 * l.Spacing, 0, List.replicate (cntN l).toNat 0⟩, 0)
def fitP (l : Lift) (m : Motor) (a : Alarm) (t : Int) : Prop := Mot m ∧ m.Max ≤ l.Speed ∧ m.Max ≤ 500 * l.Spacing ∧ 1 ≤ l.Seats ∧ l.Seats ≤ 16 ∧ badA a 0 t = false
structure OkB (b : Int) (s : LiftState) : Prop where
  new : (newR s.Lift).2 = 0
  loop : s.Line.Loop = 2000 * s.Lift.Length
  spc : s.Line.Spacing = 1000 * s.Lift.Spacing
  cnt : (s.Line.Load.length : Int) = cntN s.Lift
  time : 0 ≤ s.Time ∧ s.Time ≤ 20000000
  fit : fitP s.Lift s.Motor s.Wind s.Time
  drv : Vd s.Motor s.Drive
  line : RopeOk s.Line s.Lift.Seats
  que : QOk s.Queue
  brk : rightB s.Brakes = 0
  chn : Ch.Val s.Chain
  chk : rightC s.Checks = 0
  mode : 0 ≤ s.Mode ∧ s.Mode ≤ 3
  up : 0 ≤ s.Up ∧ s.Up ≤ b
  off : 0 ≤ s.Off ∧ s.Off ≤ b
  ppl : s.Up - s.Off = peopleS s.Line
abbrev Ok (s : LiftState) : Prop := OkB 1125899906842624 s
def loadS (s : LiftState) : Int := 10 * s.Lift.Length + 100 * peopleS s.Line
def mayS (s : LiftState) : Int := bif decide (((Ch.faultsS s.Chain s.Time).length : Int) > 0) then 13 else bif !enoughB s.Brakes (loadS s) s.Time then 14 else bif s.Mode == 2 then 0 else bif !doneC s.Checks s.Time then 11 else bif s.Wind.Active then 15 else 0
def setDrive (s : LiftState) (d : Drive) : LiftState := ⟨s.Lift, s.Motor, d, s.Brakes, s.Chain, s.Wind, s.Line, s.Queue, s.Checks, s.Time, s.Mode, s.Up, s.Off⟩
def setChain (s : LiftState) (c : Chain) : LiftState := ⟨s.Lift, s.Motor, s.Drive, s.Brakes, c, s.Wind, s.Line, s.Queue, s.Checks, s.Time, s.Mode, s.Up, s.Off⟩
def setMode (s : LiftState) (m : Int) : LiftState := ⟨s.Lift, s.Motor, s.Drive, s.Brakes, s.Chain, s.Wind, s.Line, s.Queue, s.Checks, s.Time, m, s.Up, s.Off⟩
def setQueue (s : LiftState) (q : Queue) : LiftState := ⟨s.Lift, s.Motor, s.Drive, s.Brakes, s.Chain, s.Wind, s.Line, q, s.Checks, s.Time, s.Mode, s.Up, s.Off⟩
def setBrakes (s : LiftState) (b : List Brake) : LiftState := ⟨s.Lift, s.Motor, s.Drive, b, s.Chain, s.Wind, s.Line, s.Queue, s.Checks, s.Time, s.Mode, s.Up, s.Off⟩
def setWind (s : LiftState) (a : Alarm) : LiftState := ⟨s.Lift, s.Motor, s.Drive, s.Brakes, s.Chain, a, s.Line, s.Queue, s.Checks, s.Time, s.Mode, s.Up, s.Off⟩
def setChecks (s : LiftState) (c : Checklist) : LiftState := ⟨s.Lift, s.Motor, s.Drive, s.Brakes, s.Chain, s.Wind, s.Line, s.Queue, c, s.Time, s.Mode, s.Up, s.Off⟩
def setLine (s : LiftState) (l : Line) (off : Int) : LiftState := ⟨s.Lift, s.Motor, s.Drive, s.Brakes, s.Chain, s.Wind, l, s.Queue, s.Checks, s.Time, s.Mode, s.Up, off⟩
/-- the guard, in two steps -/
def guard1 (s : LiftState) : LiftState := ⟨s.Lift, s.Motor, s.Drive, s.Brakes, Ch.expS s.Chain s.Time, s.Wind, s.Line, s.Queue, s.Checks, s.Time, bif s.Mode == 3 && peopleS s.Line == 0 then 0 else s.Mode, s.Up, s.Off⟩
def guard2 (s : LiftState) : LiftState := bif s.Drive.State != 1 then s else bif s.Mode == 0 then setDrive s (haltD s.Drive) else bif mayS s == 0 then s else bif mayS s == 13 || mayS s == 14 then setDrive s (emerD s.Drive) else setDrive s (haltD s.Drive)
def guardS (s : LiftState) : LiftState := guard2 (guard1 s)
/-- a second -/
def second1 (s : LiftState) : LiftState := ⟨s.Lift, s.Motor, stepD s.Motor s.Drive, s.Brakes, s.Chain, s.Wind, moveR s.Line (stepD s.Motor s.Drive).Speed, s.Queue, s.Checks, s.Time + 1, s.Mode, s.Up, s.Off + leftR s.Line (stepD s.Motor s.Drive).Speed s.Line.Load.length⟩
def passS (s : LiftState) : Int := passR s.Line (stepD s.Motor s.Drive).Speed s.Line.Load.length
def boardS (s : LiftState) (i : Nat) : LiftState := ⟨s.Lift, s.Motor, s.Drive, s.Brakes, s.Chain, s.Wind, setR s.Line i (seatS s.Queue s.Lift.Seats).2, (seatS s.Queue s.Lift.Seats).1, s.Checks, s.Time, s.Mode, s.Up + (seatS s.Queue s.Lift.Seats).2, s.Off⟩
def second2 (s : LiftState) : LiftState := bif decide (passS s ≥ 0) && (s.Mode == 1) then boardS (second1 s) (passS s).toNat else second1 s
def tickN (s : LiftState) : Nat → LiftState
  | 0 => s
  | k + 1 => guardS (second2 (tickN s k))
def tickS (s : LiftState) (n : Int) : LiftState × Int := bif decide (n < 1) || (decide (n > 600) || decide (s.Time + n > 20000000)) then (s, 2) else bif decide ((tickN s n.toNat).Up > 1125899906842624) || decide ((tickN s n.toNat).Off > 1125899906842624) then (tickN s n.toNat, 12) else (tickN s n.toNat, 0)
/-- the events -/
def onD (s : LiftState) (r : Drive × Int) : LiftState × Int := (setDrive s r.1, r.2)
def onC (s : LiftState) (r : Chain × Int) : LiftState × Int := (setChain s r.1, r.2)
def bringS (s : LiftState) (i n : Int) : LiftState × Int := bif s.Mode != 2 then (s, 10) else bif s.Drive.Speed != 0 then (s, 13) else bif (takeR s.Line i n).2 != 0 then (s, (takeR s.Line i n).2) else bif decide (s.Off + n > 1125899906842624) then (s, 12) else (setLine s (takeR s.Line i n).1 (s.Off + n), 0)
def rescueS (s : LiftState) : LiftState × Int := bif (s.Mode == 0) || (s.Mode == 2) then (s, 10) else bif s.Drive.Speed != 0 then (s, 13) else (setMode (setQueue (bif (s.Drive.State == 1) && decide (s.Drive.Target > 1000) then setDrive s (haltD s.Drive) else s) z_Queue) 2, 0)
def actS (s : LiftState) (e : LiftEvent) : LiftState × Int :=
  bif e.Kind == 1 then tickS s e.N else
  bif e.Kind == 2 then (bif s.Mode != 0 then (s, 10) else bif mayS s != 0 then (s, mayS s) else (setMode s 1, 0)) else
  bif e.Kind == 3 then (bif s.Mode != 1 then (s, 10) else (setMode (setQueue s z_Queue) 3, 0)) else
  bif e.Kind == 17 then rescueS s else
  bif e.Kind == 18 then bringS s e.M e.N else
  bif e.Kind == 19 then (bif s.Mode != 2 then (s, 10) else bif decide (peopleS s.Line > 0) then (s, 13) else (setMode s 0, 0)) else
  bif e.Kind == 4 then (bif s.Mode == 0 then (s, 10) else bif (s.Mode == 2) && decide (e.N > 1000) then (s, 2) else bif mayS s != 0 then (s, mayS s) else onD s (startD s.Motor s.Drive e.N)) else
  bif e.Kind == 5 then (setDrive s (haltD s.Drive), 0) else
  bif e.Kind == 6 then (setDrive s (emerD s.Drive), 0) else
  bif e.Kind == 7 then onD s (resetD s.Drive) else
  bif e.Kind == 8 then onC s (Ch.breakS s.Chain e.N) else
  bif e.Kind == 9 then onC s (Ch.makeS s.Chain e.N) else
  bif e.Kind == 10 then onC s (Ch.clearS s.Chain e.N e.By) else
  bif e.Kind == 11 then onC s (Ch.takeS s.Chain e.By) else
  bif e.Kind == 12 then (bif decide (e.M < 1) || decide (e.M > 3600) then (s, 2) else onC s (Ch.bypassS s.Chain e.N e.By (s.Time + e.M))) else
  bif e.Kind == 13 then (bif s.Drive.State != 0 then (s, 10) else (setBrakes s (testB s.Brakes e.N e.M s.Time).1, (testB s.Brakes e.N e.M s.Time).2)) else
  bif e.Kind == 14 then (setWind s (updA s.Wind e.N s.Time).1, (updA s.Wind e.N s.Time).2) else
  bif e.Kind == 15 then (setChecks s (signC s.Checks e.N e.By s.Time).1, (signC s.Checks e.N e.By s.Time).2) else
  bif e.Kind == 16 then (bif s.Mode != 1 then (s, 10) else bif e.M == 0 then (setQueue s (joinS s.Queue e.N).1, (joinS s.Queue e.N).2) else bif e.M == 1 then (setQueue s (singleS s.Queue e.N).1, (singleS s.Queue e.N).2) else (s, 2)) else
  (s, 18)
def doS (s : LiftState) (e : LiftEvent) : LiftState × Int := bif (actS s e).2 != 0 then (z_LiftState, (actS s e).2) else (bif e.Kind == 1 then (actS s e).1 else guardS (actS s e).1, 0)
/-! Right -/
structure NewOk (l : Lift) : Prop where
  len : 10 ≤ l.Length ∧ l.Length ≤ 6000
  spc : 5 ≤ l.Spacing ∧ l.Spacing ≤ 1000
  mul : cntN l * l.Spacing = 2 * l.Length
  cnt : 0 ≤ cntN l ∧ cntN l ≤ 200
theorem new_iff (l : Lift) : (newR l).2 = 0 ↔ NewOk l := by
  unfold newR
  cases h1 : badN l with
  | true =>
    unfold badN at h1
    simp only [Bool.or_eq_true, decide_eq_true_eq] at h1
    exact ⟨fun h => (by cases h), fun h => by have := h.len; have := h.spc; omega⟩
  | false =>
    unfold badN at h1
    simp only [Bool.or_eq_false_iff, decide_eq_false_iff_not] at h1
    rw [cond_false]
    have c0 : 0 ≤ cntN l := Int.ediv_nonneg (by omega) (by omega)
    cases h2 : (cntN l * l.Spacing != 2 * l.Length || decide (cntN l > 200)) with
    | true =>
      simp only [Bool.or_eq_true, decide_eq_true_eq, bne_iff_ne] at h2
      exact ⟨fun h => (by cases h), fun h => by have := h.mul; have := h.cnt; omega⟩
    | false =>
      simp only [Bool.or_eq_false_iff, decide_eq_false_iff_not, bne_eq_false_iff_eq] at h2
      exact ⟨fun _ => ⟨by omega, by omega, h2.1, by omega⟩, fun _ => rfl⟩
theorem new_some {l : Lift} (h : (newR l).2 = 0) : (newR l).1 = ⟨2000 * l.Length, 1000 * l.Spacing, 0, List.replicate (cntN l).toNat 0⟩ := by
  unfold newR at *
  cases h1 : badN l with
  | true => rw [h1] at h; cases h
  | false =>
    cases h2 : (cntN l * l.Spacing != 2 * l.Length || decide (cntN l > 200)) with
    | true => rw [h1, h2] at h; cases h
    | false => rfl
section
variable {N : Nat}
theorem ropeNew_eq (l : Lift) : rope_New N l = some (newR l) := by
  unfold rope_New newR
  simp only [cond_or, Option.bind_some]
  have e0 : (decide (l.Length < 10) || (decide (l.Length > 6000) || (decide (l.Spacing < 5) || decide (l.Spacing > 1000)))) = badN l := rfl
  rw [e0]
  cases h1 : badN l with
  | true => rfl
  | false =>
    unfold badN at h1
    simp only [Bool.or_eq_false_iff, decide_eq_false_iff_not] at h1
    have n0 : (l.Spacing != 0) = true := by rw [bne_iff_ne]; omega
    have c0 : 0 ≤ cntN l := Int.ediv_nonneg (by omega) (by omega)
    have c1 : cntN l ≤ 12000 := Int.le_trans (Int.ediv_le_self _ (by omega)) (by omega)
    have c2 : cntN l * l.Spacing ≤ 2 * l.Length := Int.ediv_mul_le _ (by omega)
    have c3 : 0 ≤ cntN l * l.Spacing := Int.mul_nonneg c0 (by omega)
    have e1 : IntKind.i64.wrap ((2 * l.Length).tdiv l.Spacing) = cntN l := by
      rw [Int.tdiv_eq_ediv_of_nonneg (by omega)]
      exact wrap64 (by unfold cntN at c0; omega) (by unfold cntN at c1; omega)
    simp only [e1, n0, cond_true, cond_false, wrap64 (z := 2 * l.Length) (by omega) (by omega), wrap64 (z := cntN l * l.Spacing) (by omega) (by omega), Option.bind_some, wrap64 (z := 2000 * l.Length) (by omega) (by omega), wrap64 (z := 1000 * l.Spacing) (by omega) (by omega)]
    cases h2 : (cntN l * l.Spacing != 2 * l.Length || decide (cntN l > 200)) with
    | true => rfl
    | false =>
      have d1 : decide (0 ≤ cntN l) = true := by rw [decide_eq_true_eq]; omega
      have d2 : decide (cntN l ≤ cntN l) = true := by rw [decide_eq_true_eq]; omega
      have d3 : decide (cntN l * 8 ≤ 140737488355328) = true := by rw [decide_eq_true_eq]; omega
      simp only [d1, d2, d3, Bool.and_self, cond_true, cond_false]
theorem fits_eq {l : Lift} (h : NewOk l) (m : Motor) (a : Alarm) (t : Int) : ∃ b, lift_fits N l m a t = some b ∧ (b = true ↔ fitP l m a t) := by
  have h1 := h.spc
  obtain ⟨b, e, hb⟩ := dright_eq N m
  unfold lift_fits fitP
  simp only [e, Option.bind_some, update_eq, cond_or, wrap64 (z := 500 * l.Spacing) (by omega) (by omega)]
  rw [← hb]
  have hu : ((updA a 0 t).2 == 0) = !badA a 0 t := by
    unfold updA
    cases badA a 0 t with
    | true => rfl
    | false =>
      simp only [cond_false]
      cases decide (0 ≥ a.On) <;> cases decide (0 ≥ a.Off) <;> rfl
  rw [hu]
  cases h2 : (!b || (decide (m.Max > l.Speed) || decide (m.Max > 500 * l.Spacing))) with
  | true =>
    refine ⟨false, rfl, fun h => (by cases h), fun h => ?_⟩
    simp only [Bool.or_eq_true, Bool.not_eq_true', decide_eq_true_eq] at h2
    rcases h2 with h2 | h2
    · rw [h2] at h; exact absurd h.1 (by decide)
    · omega
  | false =>
    simp only [Bool.or_eq_false_iff, Bool.not_eq_false', decide_eq_false_iff_not] at h2
    rw [cond_false]
    cases h3 : (decide (l.Seats < 1) || decide (l.Seats > 16)) with
    | true =>
      simp only [Bool.or_eq_true, decide_eq_true_eq] at h3
      exact ⟨false, rfl, fun h => (by cases h), fun h => by omega⟩
    | false =>
      simp only [Bool.or_eq_false_iff, decide_eq_false_iff_not] at h3
      refine ⟨_, rfl, ?_⟩
      rw [Bool.not_eq_true']
      exact ⟨fun h => ⟨h2.1, by omega, by omega, by omega, by omega, h⟩, fun h => h.2.2.2.2.2⟩
theorem liftClone_eq (s : LiftState) (h1 : s.Brakes.length ≤ 900) (h2 : s.Chain.Contacts.length ≤ 900) (h3 : s.Line.Load.length ≤ 900) (h4 : s.Queue.Groups.length ≤ 900) (h5 : s.Checks.Items.length ≤ 900) (h6 : s.Checks.Signs.length ≤ 900) : lift_clone N s = some s := by
  unfold lift_clone
  rw [cloneI_eq _ h3, cloneI_eq _ h4, cloneI_eq _ h5]
  unfold sl_Clone_Brake sl_Clone_Contact sl_Clone_Sign
  have e1 : (0 + s.Brakes.length) * 40 ≤ 140737488355328 := by omega
  have e2 : (0 + s.Chain.Contacts.length) * 24 ≤ 140737488355328 := by omega
  have e3 : (0 + s.Checks.Signs.length) * 24 ≤ 140737488355328 := by omega
  simp only [e1, e2, e3, decide_true, cond_true, Option.bind_some]
variable (hN : 1000 < N)
include hN
theorem right_eq (s : LiftState) : ∃ b, lift_Right N s = some b ∧ (b = true ↔ Ok s) := by
  unfold lift_Right
  simp only [ropeNew_eq, Option.bind_some, cond_or]
  cases h1 : ((newR s.Lift).2 != 0 || (s.Line.Loop != (newR s.Lift).1.Loop || (s.Line.Spacing != (newR s.Lift).1.Spacing || (s.Line.Load.length : Int) != ((newR s.Lift).1.Load.length : Int)))) with
  | true =>
    refine ⟨false, rfl, fun h => (by cases h), fun h => ?_⟩
    have n := h.new
    have e := new_some n
    have k := ((new_iff _).1 n).cnt
    have a1 := h.loop
    have a2 := h.spc
    have a3 := h.cnt
    rw [e] at h1
    simp only [Bool.or_eq_true, bne_iff_ne, List.length_replicate] at h1
    omega
  | false =>
    simp only [Bool.or_eq_false_iff, bne_eq_false_iff_eq] at h1
    obtain ⟨n, a1, a2, a3⟩ := h1
    have k := (new_iff _).1 n
    have kc := k.cnt
    rw [new_some n] at a1 a2 a3
    simp only [List.length_replicate] at a1 a2 a3
    obtain ⟨b, e, hb⟩ := fits_eq (N := N) k s.Motor s.Wind s.Time
    simp only [cond_false, e, Option.bind_some, cond_or]
    cases h2 : (decide (s.Time < 0) || (decide (s.Time > 20000000) || !b)) with
    | true =>
      refine ⟨false, rfl, fun h => (by cases h), fun h => ?_⟩
      have t := h.time
      have f := hb.2 h.fit
      rw [f] at h2
      simp only [Bool.or_eq_true, decide_eq_true_eq, Bool.not_true, Bool.false_eq_true, or_false] at h2
      omega
    | false =>
      simp only [Bool.or_eq_false_iff, decide_eq_false_iff_not, Bool.not_eq_false'] at h2
      obtain ⟨b1, e1, hb1⟩ := dvalid_eq N s.Motor s.Drive
      obtain ⟨b2, e2, hb2⟩ := ropeRight_eq hN s.Line s.Lift.Seats
      obtain ⟨b3, e3, hb3⟩ := qright_eq hN s.Queue
      have hfit := hb.1 h2.2.2
      simp only [cond_false, e1, e2, e3, Option.bind_some, cond_or]
      cases h3 : (!b1 || (!b2 || !b3)) with
      | true =>
        refine ⟨false, rfl, fun h => (by cases h), fun h => ?_⟩
        rw [hb1.2 h.drv, hb2.2 h.line, hb3.2 h.que] at h3
        cases h3
      | false =>
        simp only [Bool.or_eq_false_iff, Bool.not_eq_false'] at h3
        have hl := hb2.1 h3.2.1
        simp only [cond_false, bright_eq hN, Ch.right_eq hN, iright_eq hN, Option.bind_some, cond_or]
        cases h4 : (rightB s.Brakes != 0 || (Ch.rightS s.Chain != 0 || rightC s.Checks != 0)) with
        | true =>
          refine ⟨false, rfl, fun h => (by cases h), fun h => ?_⟩
          rw [h.brk, Ch.right_zero.2 h.chn, h.chk] at h4
          cases h4
        | false =>
          simp only [Bool.or_eq_false_iff, bne_eq_false_iff_eq] at h4
          simp only [cond_false]
          cases h5 : (decide (s.Mode < 0) || decide (s.Mode > 3)) with
          | true =>
            refine ⟨false, rfl, fun h => (by cases h), fun h => ?_⟩
            have := h.mode
            simp only [Bool.or_eq_true, decide_eq_true_eq] at h5
            omega
          | false =>
            simp only [Bool.or_eq_false_iff, decide_eq_false_iff_not] at h5
            simp only [cond_false]
            cases h6 : (decide (s.Up < 0) || (decide (s.Up > 1125899906842624) || (decide (s.Off < 0) || decide (s.Off > 1125899906842624)))) with
            | true =>
              refine ⟨false, rfl, fun h => (by cases h), fun h => ?_⟩
              have := h.up
              have := h.off
              simp only [Bool.or_eq_true, decide_eq_true_eq] at h6
              omega
            | false =>
              simp only [Bool.or_eq_false_iff, decide_eq_false_iff_not] at h6
              obtain ⟨_, _, _, f4, f5, _⟩ := id hfit
              simp only [cond_false, people_eq hN hl f5, Option.bind_some]
              refine ⟨_, rfl, ?_⟩
              rw [beq_iff_eq, wrap64 (by omega) (by omega)]
              refine ⟨fun h => ⟨n, a1, a2, by omega, by omega, hfit, hb1.1 h3.1, hl, hb3.1 h3.2.2, h4.1, Ch.right_zero.1 h4.2.1, h4.2.2, by omega, by omega, by omega, h⟩, fun h => h.ppl⟩
theorem right_ok {s : LiftState} (h : Ok s) : lift_Right N s = some true := by
  obtain ⟨b, e, hb⟩ := right_eq hN s
  rw [e, hb.2 h]
theorem may_eq {b : Int} {s : LiftState} (h : OkB b s) : lift_May N s = some (mayS s) := by
  obtain ⟨_, _, _, f4, f5, _⟩ := id h.fit
  have k := ((new_iff _).1 h.new).len
  have c := h.chn.len
  have pb : 0 ≤ peopleS s.Line ∧ peopleS s.Line ≤ 16 * 200 := by
    have a := sum_le (b := 16) (l := s.Line.Load) (fun j hj => by have := h.line.load j hj; omega) s.Line.Load.length (Nat.le_refl _)
    have l := h.line.len
    rw [List.take_length] at a
    unfold peopleS
    omega
  have t := h.time
  unfold lift_May lift_Load mayS loadS
  simp only [Ch.faults_eq hN (show s.Chain.Contacts.length ≤ 1000 by omega), Option.bind_some, people_eq hN h.line f5, wrap64 (z := 10 * s.Lift.Length) (by omega) (by omega), wrap64 (z := 100 * peopleS s.Line) (by omega) (by omega), wrap64 (z := 10 * s.Lift.Length + 100 * peopleS s.Line) (by omega) (by omega), enough_eq hN h.brk _ t.1 t.2, done_eq hN (ck_ok h.chk)]
  cases decide (((Ch.faultsS s.Chain s.Time).length : Int) > 0) <;> cases enoughB s.Brakes (10 * s.Lift.Length + 100 * peopleS s.Line) s.Time <;> cases (s.Mode == 2) <;> cases doneC s.Checks s.Time <;> cases s.Wind.Active <;> rfl
end
end Go.Proofs.Ythjmbcnohgaihaa
