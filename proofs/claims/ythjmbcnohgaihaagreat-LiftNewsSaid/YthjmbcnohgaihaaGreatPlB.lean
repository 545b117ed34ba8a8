/- Own texts in one module: Lif7 Lif8 Lif9 Lifb Lifc. No condition. -/
import Derived.Test.YthjmbcnohgaihaaGreatPlA
/- The lift as plain functions: Right, May, the guard, a second, the events. No condition. -/
namespace Go.Proofs.YthjmbcnohgaihaaGreat
open Go.Cm Go.Proofs
def badN (l : Lift) : Bool := decide (l.Length < 10) || (decide (l.Length > 6000) || (decide (l.Spacing < 5) || decide (l.Spacing > 1000)))
def cntN (l : Lift) : Int := 2 * l.Length / l.Spacing
def newR (l : Lift) : Line × Int := bif badN l then (z_Line, 1) else bif (cntN l * l.Spacing != 2 * l.Length) || decide (cntN l > 200) then (z_Line, 1) else (⟨2000 * l.Length, 1000 * l.Spacing, 0, List.replicate (cntN l).toNat 0⟩, 0)
def fitP (l : Lift) (m : Motor) (a : Alarm) (t : Int) : Prop := Mot m ∧ m.Max ≤ l.Speed ∧ m.Max ≤ 500 * l.Spacing ∧ 1 ≤ l.Seats ∧ l.Seats ≤ 16 ∧ badA a 0 t = false
structure OkB (b : Int) (s : LiftState) : Prop where
  new : (newR s.Lift).2 = 0
  loop : s.Line.Loop = 2000 * s.Lift.Length
  spc : s.Line.Spacing = 1000 * s.Lift.Spacing
  cnt : (s.Line.Load.length : Int) = cntN s.Lift
  time : 0 ≤ s.Time ∧ s.Time ≤ 20000000
  fit : fitP s.Lift s.Motor s.Wind s.Time
  drv : Vd s.Motor s.Drive
  line : RopeOk s.Line s.Lift.Seats
  que : QOk s.Queue
  brk : rightB s.Brakes = 0
  chn : Ch.Val s.Chain
  chk : rightC s.Checks = 0
  mode : 0 ≤ s.Mode ∧ s.Mode ≤ 3
  up : 0 ≤ s.Up ∧ s.Up ≤ b
  off : 0 ≤ s.Off ∧ s.Off ≤ b
  ppl : s.Up - s.Off = peopleS s.Line
abbrev Ok (s : LiftState) : Prop := OkB 1125899906842624 s
def loadS (s : LiftState) : Int := 10 * s.Lift.Length + 100 * peopleS s.Line
def mayS (s : LiftState) : Int := bif decide (((Ch.faultsS s.Chain s.Time).length : Int) > 0) then 13 else bif !enoughB s.Brakes (loadS s) s.Time then 14 else bif s.Mode == 2 then 0 else bif !doneC s.Checks s.Time then 11 else bif s.Wind.Active then 15 else 0
def setDrive (s : LiftState) (d : Drive) : LiftState := ⟨s.Lift, s.Motor, d, s.Brakes, s.Chain, s.Wind, s.Line, s.Queue, s.Checks, s.Time, s.Mode, s.Up, s.Off⟩
def setChain (s : LiftState) (c : Chain) : LiftState := ⟨s.Lift, s.Motor, s.Drive, s.Brakes, c, s.Wind, s.Line, s.Queue, s.Checks, s.Time, s.Mode, s.Up, s.Off⟩
def setMode (s : LiftState) (m : Int) : LiftState := ⟨s.Lift, s.Motor, s.Drive, s.Brakes, s.Chain, s.Wind, s.Line, s.Queue, s.Checks, s.Time, m, s.Up, s.Off⟩
def setQueue (s : LiftState) (q : Queue) : LiftState := ⟨s.Lift, s.Motor, s.Drive, s.Brakes, s.Chain, s.Wind, s.Line, q, s.Checks, s.Time, s.Mode, s.Up, s.Off⟩
def setBrakes (s : LiftState) (b : List Brake) : LiftState := ⟨s.Lift, s.Motor, s.Drive, b, s.Chain, s.Wind, s.Line, s.Queue, s.Checks, s.Time, s.Mode, s.Up, s.Off⟩
def setWind (s : LiftState) (a : Alarm) : LiftState := ⟨s.Lift, s.Motor, s.Drive, s.Brakes, s.Chain, a, s.Line, s.Queue, s.Checks, s.Time, s.Mode, s.Up, s.Off⟩
def setChecks (s : LiftState) (c : Checklist) : LiftState := ⟨s.Lift, s.Motor, s.Drive, s.Brakes, s.Chain, s.Wind, s.Line, s.Queue, c, s.Time, s.Mode, s.Up, s.Off⟩
def setLine (s : LiftState) (l : Line) (off : Int) : LiftState := ⟨s.Lift, s.Motor, s.Drive, s.Brakes, s.Chain, s.Wind, l, s.Queue, s.Checks, s.Time, s.Mode, s.Up, off⟩
/-- the guard, in two steps -/
def guard1 (s : LiftState) : LiftState := ⟨s.Lift, s.Motor, s.Drive, s.Brakes, Ch.expS s.Chain s.Time, s.Wind, s.Line, s.Queue, s.Checks, s.Time, bif s.Mode == 3 && peopleS s.Line == 0 then 0 else s.Mode, s.Up, s.Off⟩
def guard2 (s : LiftState) : LiftState := bif s.Drive.State != 1 then s else bif s.Mode == 0 then setDrive s (haltD s.Drive) else bif mayS s == 0 then s else bif mayS s == 13 || mayS s == 14 then setDrive s (emerD s.Drive) else setDrive s (haltD s.Drive)
def guardS (s : LiftState) : LiftState := guard2 (guard1 s)
/-- a second -/
def second1 (s : LiftState) : LiftState := ⟨s.Lift, s.Motor, stepD s.Motor s.Drive, s.Brakes, s.Chain, s.Wind, moveR s.Line (stepD s.Motor s.Drive).Speed, s.Queue, s.Checks, s.Time + 1, s.Mode, s.Up, s.Off + leftR s.Line (stepD s.Motor s.Drive).Speed s.Line.Load.length⟩
def passS (s : LiftState) : Int := passR s.Line (stepD s.Motor s.Drive).Speed s.Line.Load.length
def boardS (s : LiftState) (i : Nat) : LiftState := ⟨s.Lift, s.Motor, s.Drive, s.Brakes, s.Chain, s.Wind, setR s.Line i (seatS s.Queue s.Lift.Seats).2, (seatS s.Queue s.Lift.Seats).1, s.Checks, s.Time, s.Mode, s.Up + (seatS s.Queue s.Lift.Seats).2, s.Off⟩
def second2 (s : LiftState) : LiftState := bif decide (passS s ≥ 0) && (s.Mode == 1) then boardS (second1 s) (passS s).toNat else second1 s
def tickN (s : LiftState) : Nat → LiftState
  | 0 => s
  | k + 1 => guardS (second2 (tickN s k))
def tickS (s : LiftState) (n : Int) : LiftState × Int := bif decide (n < 1) || (decide (n > 600) || decide (s.Time + n > 20000000)) then (s, 2) else bif decide ((tickN s n.toNat).Up > 1125899906842624) || decide ((tickN s n.toNat).Off > 1125899906842624) then (tickN s n.toNat, 12) else (tickN s n.toNat, 0)
/-- the events -/
def onD (s : LiftState) (r : Drive × Int) : LiftState × Int := (setDrive s r.1, r.2)
def onC (s : LiftState) (r : Chain × Int) : LiftState × Int := (setChain s r.1, r.2)
def bringS (s : LiftState) (i n : Int) : LiftState × Int := bif s.Mode != 2 then (s, 10) else bif s.Drive.Speed != 0 then (s, 13) else bif (takeR s.Line i n).2 != 0 then (s, (takeR s.Line i n).2) else bif decide (s.Off + n > 1125899906842624) then (s, 12) else (setLine s (takeR s.Line i n).1 (s.Off + n), 0)
def rescueS (s : LiftState) : LiftState × Int := bif (s.Mode == 0) || (s.Mode == 2) then (s, 10) else bif s.Drive.Speed != 0 then (s, 13) else (setMode (setQueue (bif (s.Drive.State == 1) && decide (s.Drive.Target > 1000) then setDrive s (haltD s.Drive) else s) z_Queue) 2, 0)
def actS (s : LiftState) (e : LiftEvent) : LiftState × Int :=
  bif e.Kind == 1 then tickS s e.N else
  bif e.Kind == 2 then (bif s.Mode != 0 then (s, 10) else bif mayS s != 0 then (s, mayS s) else (setMode s 1, 0)) else
  bif e.Kind == 3 then (bif s.Mode != 1 then (s, 10) else (setMode (setQueue s z_Queue) 3, 0)) else
  bif e.Kind == 17 then rescueS s else
  bif e.Kind == 18 then bringS s e.M e.N else
  bif e.Kind == 19 then (bif s.Mode != 2 then (s, 10) else bif decide (peopleS s.Line > 0) then (s, 13) else (setMode s 0, 0)) else
  bif e.Kind == 4 then (bif s.Mode == 0 then (s, 10) else bif (s.Mode == 2) && decide (e.N > 1000) then (s, 2) else bif mayS s != 0 then (s, mayS s) else onD s (startD s.Motor s.Drive e.N)) else
  bif e.Kind == 5 then (setDrive s (haltD s.Drive), 0) else
  bif e.Kind == 6 then (setDrive s (emerD s.Drive), 0) else
  bif e.Kind == 7 then onD s (resetD s.Drive) else
  bif e.Kind == 8 then onC s (Ch.breakS s.Chain e.N) else
  bif e.Kind == 9 then onC s (Ch.makeS s.Chain e.N) else
  bif e.Kind == 10 then onC s (Ch.clearS s.Chain e.N e.By) else
  bif e.Kind == 11 then onC s (Ch.takeS s.Chain e.By) else
  bif e.Kind == 12 then (bif decide (e.M < 1) || decide (e.M > 3600) then (s, 2) else onC s (Ch.bypassS s.Chain e.N e.By (s.Time + e.M))) else
  bif e.Kind == 13 then (bif s.Drive.State != 0 then (s, 10) else (setBrakes s (testB s.Brakes e.N e.M s.Time).1, (testB s.Brakes e.N e.M s.Time).2)) else
  bif e.Kind == 14 then (setWind s (updA s.Wind e.N s.Time).1, (updA s.Wind e.N s.Time).2) else
  bif e.Kind == 15 then (setChecks s (signC s.Checks e.N e.By s.Time).1, (signC s.Checks e.N e.By s.Time).2) else
  bif e.Kind == 16 then (bif s.Mode != 1 then (s, 10) else bif e.M == 0 then (setQueue s (joinS s.Queue e.N).1, (joinS s.Queue e.N).2) else bif e.M == 1 then (setQueue s (singleS s.Queue e.N).1, (singleS s.Queue e.N).2) else (s, 2)) else
  (s, 18)
def doS (s : LiftState) (e : LiftEvent) : LiftState × Int := bif (actS s e).2 != 0 then (z_LiftState, (actS s e).2) else (bif e.Kind == 1 then (actS s e).1 else guardS (actS s e).1, 0)
/-! Right -/
structure NewOk (l : Lift) : Prop where
  len : 10 ≤ l.Length ∧ l.Length ≤ 6000
  spc : 5 ≤ l.Spacing ∧ l.Spacing ≤ 1000
  mul : cntN l * l.Spacing = 2 * l.Length
  cnt : 0 ≤ cntN l ∧ cntN l ≤ 200
theorem new_iff (l : Lift) : (newR l).2 = 0 ↔ NewOk l := by
  unfold newR
  cases h1 : badN l with
  | true =>
    unfold badN at h1
    simp only [Bool.or_eq_true, decide_eq_true_eq] at h1
    exact ⟨fun h => (by cases h), fun h => by have := h.len; have := h.spc; omega⟩
  | false =>
    unfold badN at h1
    simp only [Bool.or_eq_false_iff, decide_eq_false_iff_not] at h1
    rw [cond_false]
    have c0 : 0 ≤ cntN l := Int.ediv_nonneg (by omega) (by omega)
    cases h2 : (cntN l * l.Spacing != 2 * l.Length || decide (cntN l > 200)) with
    | true =>
      simp only [Bool.or_eq_true, decide_eq_true_eq, bne_iff_ne] at h2
      exact ⟨fun h => (by cases h), fun h => by have := h.mul; have := h.cnt; omega⟩
    | false =>
      simp only [Bool.or_eq_false_iff, decide_eq_false_iff_not, bne_eq_false_iff_eq] at h2
      exact ⟨fun _ => ⟨by omega, by omega, h2.1, by omega⟩, fun _ => rfl⟩
theorem new_some {l : Lift} (h : (newR l).2 = 0) : (newR l).1 = ⟨2000 * l.Length, 1000 * l.Spacing, 0, List.replicate (cntN l).toNat 0⟩ := by
  unfold newR at *
  cases h1 : badN l with
  | true => rw [h1] at h; cases h
  | false =>
    cases h2 : (cntN l * l.Spacing != 2 * l.Length || decide (cntN l > 200)) with
    | true => rw [h1, h2] at h; cases h
    | false => rfl
section
variable {N : Nat}
theorem ropeNew_eq (l : Lift) : rope_New N l = some (newR l) := by
  unfold rope_New newR
  simp only [cond_or, Option.bind_some]
  have e0 : (decide (l.Length < 10) || (decide (l.Length > 6000) || (decide (l.Spacing < 5) || decide (l.Spacing > 1000)))) = badN l := rfl
  rw [e0]
  cases h1 : badN l with
  | true => rfl
  | false =>
    unfold badN at h1
    simp only [Bool.or_eq_false_iff, decide_eq_false_iff_not] at h1
    have n0 : (l.Spacing != 0) = true := by rw [bne_iff_ne]; omega
    have c0 : 0 ≤ cntN l := Int.ediv_nonneg (by omega) (by omega)
    have c1 : cntN l ≤ 12000 := Int.le_trans (Int.ediv_le_self _ (by omega)) (by omega)
    have c2 : cntN l * l.Spacing ≤ 2 * l.Length := Int.ediv_mul_le _ (by omega)
    have c3 : 0 ≤ cntN l * l.Spacing := Int.mul_nonneg c0 (by omega)
    have e1 : IntKind.i64.wrap ((2 * l.Length).tdiv l.Spacing) = cntN l := by
      rw [Int.tdiv_eq_ediv_of_nonneg (by omega)]
      exact wrap64 (by unfold cntN at c0; omega) (by unfold cntN at c1; omega)
    simp only [e1, n0, cond_true, cond_false, wrap64 (z := 2 * l.Length) (by omega) (by omega), wrap64 (z := cntN l * l.Spacing) (by omega) (by omega), Option.bind_some, wrap64 (z := 2000 * l.Length) (by omega) (by omega), wrap64 (z := 1000 * l.Spacing) (by omega) (by omega)]
    cases h2 : (cntN l * l.Spacing != 2 * l.Length || decide (cntN l > 200)) with
    | true => rfl
    | false =>
      have d1 : decide (0 ≤ cntN l) = true := by rw [decide_eq_true_eq]; omega
      have d2 : decide (cntN l ≤ cntN l) = true := by rw [decide_eq_true_eq]; omega
      have d3 : decide (cntN l * 8 ≤ 140737488355328) = true := by rw [decide_eq_true_eq]; omega
      simp only [d1, d2, d3, Bool.and_self, cond_true, cond_false]
theorem fits_eq {l : Lift} (h : NewOk l) (m : Motor) (a : Alarm) (t : Int) : ∃ b, lift_fits N l m a t = some b ∧ (b = true ↔ fitP l m a t) := by
  have h1 := h.spc
  obtain ⟨b, e, hb⟩ := dright_eq N m
  unfold lift_fits fitP
  simp only [e, Option.bind_some, update_eq, cond_or, wrap64 (z := 500 * l.Spacing) (by omega) (by omega)]
  rw [← hb]
  have hu : ((updA a 0 t).2 == 0) = !badA a 0 t := by
    unfold updA
    cases badA a 0 t with
    | true => rfl
    | false =>
      simp only [cond_false]
      cases decide (0 ≥ a.On) <;> cases decide (0 ≥ a.Off) <;> rfl
  rw [hu]
  cases h2 : (!b || (decide (m.Max > l.Speed) || decide (m.Max > 500 * l.Spacing))) with
  | true =>
    refine ⟨false, rfl, fun h => (by cases h), fun h => ?_⟩
    simp only [Bool.or_eq_true, Bool.not_eq_true', decide_eq_true_eq] at h2
    rcases h2 with h2 | h2
    · rw [h2] at h; exact absurd h.1 (by decide)
    · omega
  | false =>
    simp only [Bool.or_eq_false_iff, Bool.not_eq_false', decide_eq_false_iff_not] at h2
    rw [cond_false]
    cases h3 : (decide (l.Seats < 1) || decide (l.Seats > 16)) with
    | true =>
      simp only [Bool.or_eq_true, decide_eq_true_eq] at h3
      exact ⟨false, rfl, fun h => (by cases h), fun h => by omega⟩
    | false =>
      simp only [Bool.or_eq_false_iff, decide_eq_false_iff_not] at h3
      refine ⟨_, rfl, ?_⟩
      rw [Bool.not_eq_true']
      exact ⟨fun h => ⟨h2.1, by omega, by omega, by omega, by omega, h⟩, fun h => h.2.2.2.2.2⟩
theorem liftClone_eq (s : LiftState) (h1 : s.Brakes.length ≤ 900) (h2 : s.Chain.Contacts.length ≤ 900) (h3 : s.Line.Load.length ≤ 900) (h4 : s.Queue.Groups.length ≤ 900) (h5 : s.Checks.Items.length ≤ 900) (h6 : s.Checks.Signs.length ≤ 900) : lift_clone N s = some s := by
  unfold lift_clone
  rw [cloneI_eq _ h3, cloneI_eq _ h4, cloneI_eq _ h5]
  unfold sl_Clone_Brake sl_Clone_Contact sl_Clone_Sign
  have e1 : (0 + s.Brakes.length) * 40 ≤ 140737488355328 := by omega
  have e2 : (0 + s.Chain.Contacts.length) * 24 ≤ 140737488355328 := by omega
  have e3 : (0 + s.Checks.Signs.length) * 24 ≤ 140737488355328 := by omega
  simp only [e1, e2, e3, decide_true, cond_true, Option.bind_some]
variable (hN : 1000 < N)
include hN
theorem right_eq (s : LiftState) : ∃ b, lift_Right N s = some b ∧ (b = true ↔ Ok s) := by
  unfold lift_Right
  simp only [ropeNew_eq, Option.bind_some, cond_or]
  cases h1 : ((newR s.Lift).2 != 0 || (s.Line.Loop != (newR s.Lift).1.Loop || (s.Line.Spacing != (newR s.Lift).1.Spacing || (s.Line.Load.length : Int) != ((newR s.Lift).1.Load.length : Int)))) with
  | true =>
    refine ⟨false, rfl, fun h => (by cases h), fun h => ?_⟩
    have n := h.new
    have e := new_some n
    have k := ((new_iff _).1 n).cnt
    have a1 := h.loop
    have a2 := h.spc
    have a3 := h.cnt
    rw [e] at h1
    simp only [Bool.or_eq_true, bne_iff_ne, List.length_replicate] at h1
    omega
  | false =>
    simp only [Bool.or_eq_false_iff, bne_eq_false_iff_eq] at h1
    obtain ⟨n, a1, a2, a3⟩ := h1
    have k := (new_iff _).1 n
    have kc := k.cnt
    rw [new_some n] at a1 a2 a3
    simp only [List.length_replicate] at a1 a2 a3
    obtain ⟨b, e, hb⟩ := fits_eq (N := N) k s.Motor s.Wind s.Time
    simp only [cond_false, e, Option.bind_some, cond_or]
    cases h2 : (decide (s.Time < 0) || (decide (s.Time > 20000000) || !b)) with
    | true =>
      refine ⟨false, rfl, fun h => (by cases h), fun h => ?_⟩
      have t := h.time
      have f := hb.2 h.fit
      rw [f] at h2
      simp only [Bool.or_eq_true, decide_eq_true_eq, Bool.not_true, Bool.false_eq_true, or_false] at h2
      omega
    | false =>
      simp only [Bool.or_eq_false_iff, decide_eq_false_iff_not, Bool.not_eq_false'] at h2
      obtain ⟨b1, e1, hb1⟩ := dvalid_eq N s.Motor s.Drive
      obtain ⟨b2, e2, hb2⟩ := ropeRight_eq hN s.Line s.Lift.Seats
      obtain ⟨b3, e3, hb3⟩ := qright_eq hN s.Queue
      have hfit := hb.1 h2.2.2
      simp only [cond_false, e1, e2, e3, Option.bind_some, cond_or]
      cases h3 : (!b1 || (!b2 || !b3)) with
      | true =>
        refine ⟨false, rfl, fun h => (by cases h), fun h => ?_⟩
        rw [hb1.2 h.drv, hb2.2 h.line, hb3.2 h.que] at h3
        cases h3
      | false =>
        simp only [Bool.or_eq_false_iff, Bool.not_eq_false'] at h3
        have hl := hb2.1 h3.2.1
        simp only [cond_false, bright_eq hN, Ch.right_eq hN, iright_eq hN, Option.bind_some, cond_or]
        cases h4 : (rightB s.Brakes != 0 || (Ch.rightS s.Chain != 0 || rightC s.Checks != 0)) with
        | true =>
          refine ⟨false, rfl, fun h => (by cases h), fun h => ?_⟩
          rw [h.brk, Ch.right_zero.2 h.chn, h.chk] at h4
          cases h4
        | false =>
          simp only [Bool.or_eq_false_iff, bne_eq_false_iff_eq] at h4
          simp only [cond_false]
          cases h5 : (decide (s.Mode < 0) || decide (s.Mode > 3)) with
          | true =>
            refine ⟨false, rfl, fun h => (by cases h), fun h => ?_⟩
            have := h.mode
            simp only [Bool.or_eq_true, decide_eq_true_eq] at h5
            omega
          | false =>
            simp only [Bool.or_eq_false_iff, decide_eq_false_iff_not] at h5
            simp only [cond_false]
            cases h6 : (decide (s.Up < 0) || (decide (s.Up > 1125899906842624) || (decide (s.Off < 0) || decide (s.Off > 1125899906842624)))) with
            | true =>
              refine ⟨false, rfl, fun h => (by cases h), fun h => ?_⟩
              have := h.up
              have := h.off
              simp only [Bool.or_eq_true, decide_eq_true_eq] at h6
              omega
            | false =>
              simp only [Bool.or_eq_false_iff, decide_eq_false_iff_not] at h6
              obtain ⟨_, _, _, f4, f5, _⟩ := id hfit
              simp only [cond_false, people_eq hN hl f5, Option.bind_some]
              refine ⟨_, rfl, ?_⟩
              rw [beq_iff_eq, wrap64 (by omega) (by omega)]
              refine ⟨fun h => ⟨n, a1, a2, by omega, by omega, hfit, hb1.1 h3.1, hl, hb3.1 h3.2.2, h4.1, Ch.right_zero.1 h4.2.1, h4.2.2, by omega, by omega, by omega, h⟩, fun h => h.ppl⟩
theorem right_ok {s : LiftState} (h : Ok s) : lift_Right N s = some true := by
  obtain ⟨b, e, hb⟩ := right_eq hN s
  rw [e, hb.2 h]
theorem may_eq {b : Int} {s : LiftState} (h : OkB b s) : lift_May N s = some (mayS s) := by
  obtain ⟨_, _, _, f4, f5, _⟩ := id h.fit
  have k := ((new_iff _).1 h.new).len
  have c := h.chn.len
  have pb : 0 ≤ peopleS s.Line ∧ peopleS s.Line ≤ 16 * 200 := by
    have a := sum_le (b := 16) (l := s.Line.Load) (fun j hj => by have := h.line.load j hj; omega) s.Line.Load.length (Nat.le_refl _)
    have l := h.line.len
    rw [List.take_length] at a
    unfold peopleS
    omega
  have t := h.time
  unfold lift_May lift_Load mayS loadS
  simp only [Ch.faults_eq hN (show s.Chain.Contacts.length ≤ 1000 by omega), Option.bind_some, people_eq hN h.line f5, wrap64 (z := 10 * s.Lift.Length) (by omega) (by omega), wrap64 (z := 100 * peopleS s.Line) (by omega) (by omega), wrap64 (z := 10 * s.Lift.Length + 100 * peopleS s.Line) (by omega) (by omega), enough_eq hN h.brk _ t.1 t.2, done_eq hN (ck_ok h.chk)]
  cases decide (((Ch.faultsS s.Chain s.Time).length : Int) > 0) <;> cases enoughB s.Brakes (10 * s.Lift.Length + 100 * peopleS s.Line) s.Time <;> cases (s.Mode == 2) <;> cases doneC s.Checks s.Time <;> cases s.Wind.Active <;> rfl
end
end Go.Proofs.YthjmbcnohgaihaaGreat

/- The lift: a lift that is right stays right, whatever is done. No condition. -/
namespace Go.Proofs.YthjmbcnohgaihaaGreat
open Go.Cm Go.Proofs
theorem people_nonneg {b : Int} {s : LiftState} (h : OkB b s) : 0 ≤ peopleS s.Line ∧ peopleS s.Line ≤ 3200 := by
  obtain ⟨_, _, _, f4, f5, _⟩ := id h.fit
  have a := sum_le (b := 16) (l := s.Line.Load) (fun j hj => by have := h.line.load j hj; omega) s.Line.Load.length (Nat.le_refl _)
  have l := h.line.len
  rw [List.take_length] at a
  unfold peopleS
  omega
theorem OkB.mono {a b : Int} {s : LiftState} (h : OkB a s) (hab : a ≤ b) : OkB b s :=
  ⟨h.new, h.loop, h.spc, h.cnt, h.time, h.fit, h.drv, h.line, h.que, h.brk, h.chn, h.chk, h.mode, ⟨h.up.1, Int.le_trans h.up.2 hab⟩, ⟨h.off.1, Int.le_trans h.off.2 hab⟩, h.ppl⟩
theorem setDrive_ok {b : Int} {s : LiftState} (h : OkB b s) {d : Drive} (hd : Vd s.Motor d) : OkB b (setDrive s d) :=
  ⟨h.new, h.loop, h.spc, h.cnt, h.time, h.fit, hd, h.line, h.que, h.brk, h.chn, h.chk, h.mode, h.up, h.off, h.ppl⟩
theorem setChain_ok {b : Int} {s : LiftState} (h : OkB b s) {c : Chain} (hc : Ch.Val c) : OkB b (setChain s c) :=
  ⟨h.new, h.loop, h.spc, h.cnt, h.time, h.fit, h.drv, h.line, h.que, h.brk, hc, h.chk, h.mode, h.up, h.off, h.ppl⟩
theorem setMode_ok {b : Int} {s : LiftState} (h : OkB b s) {m : Int} (hm : 0 ≤ m ∧ m ≤ 3) : OkB b (setMode s m) :=
  ⟨h.new, h.loop, h.spc, h.cnt, h.time, h.fit, h.drv, h.line, h.que, h.brk, h.chn, h.chk, hm, h.up, h.off, h.ppl⟩
theorem setQueue_ok {b : Int} {s : LiftState} (h : OkB b s) {q : Queue} (hq : QOk q) : OkB b (setQueue s q) :=
  ⟨h.new, h.loop, h.spc, h.cnt, h.time, h.fit, h.drv, h.line, hq, h.brk, h.chn, h.chk, h.mode, h.up, h.off, h.ppl⟩
theorem exp_val {c : Chain} (v : Ch.Val c) (t : Int) : Ch.Val (Ch.expS c t) := Ch.Did.val v (Ch.did (c := c) (x := ⟨5, 0, 0, t⟩) rfl)
theorem guard1_ok {b : Int} {s : LiftState} (h : OkB b s) : OkB b (guard1 s) := by
  have m := h.mode
  refine ⟨h.new, h.loop, h.spc, h.cnt, h.time, h.fit, h.drv, h.line, h.que, h.brk, exp_val h.chn _, h.chk, ?_, h.up, h.off, h.ppl⟩
  unfold guard1
  simp only
  cases (s.Mode == 3 && peopleS s.Line == 0) with
  | true => simp
  | false => exact m
theorem guard2_ok {b : Int} {s : LiftState} (h : OkB b s) : OkB b (guard2 s) := by
  unfold guard2
  cases (s.Drive.State != 1) with
  | true => exact h
  | false =>
    cases (s.Mode == 0) with
    | true => exact setDrive_ok h (halt_ok h.drv).1
    | false =>
      cases (mayS s == 0) with
      | true => exact h
      | false =>
        cases (mayS s == 13 || mayS s == 14) with
        | true => exact setDrive_ok h (emer_ok h.drv).1
        | false => exact setDrive_ok h (halt_ok h.drv).1
theorem guard_ok {b : Int} {s : LiftState} (h : OkB b s) : OkB b (guardS s) := guard2_ok (guard1_ok h)
theorem seat_ok {q : Queue} (h : QOk q) {seats : Int} (h1 : 1 ≤ seats) (h2 : seats ≤ 16) : QOk (seatS q seats).1 ∧ qlen (seatS q seats).1 + (seatS q seats).2 = qlen q ∧ 0 ≤ (seatS q seats).2 ∧ (seatS q seats).2 ≤ seats := by
  obtain ⟨r, e, _, a, b, c, d⟩ := seat_eq (N := 2000) (by decide) h h1 h2
  rw [seat_ex (by decide) h h1 h2] at e
  cases e
  exact ⟨a, b, c, d⟩
theorem join_ok {q : Queue} (h : QOk q) {n : Int} (hz : (joinS q n).2 = 0) : QOk (joinS q n).1 ∧ qlen (joinS q n).1 = qlen q + n := by
  obtain ⟨r, e, a⟩ := join_eq (N := 2000) h n
  rw [join_ex h] at e
  cases e
  exact a hz
theorem single_ok {q : Queue} (h : QOk q) {n : Int} (hz : (singleS q n).2 = 0) : QOk (singleS q n).1 ∧ qlen (singleS q n).1 = qlen q + n := by
  obtain ⟨r, e, a⟩ := single_eq (N := 2000) h n
  rw [single_ex h] at e
  cases e
  exact a hz
/-! a second -/
theorem speed_ok {b : Int} {s : LiftState} (h : OkB b s) : 0 ≤ (stepD s.Motor s.Drive).Speed ∧ 2 * (stepD s.Motor s.Drive).Speed ≤ s.Line.Spacing := by
  obtain ⟨f1, _, f3, _⟩ := id h.fit
  have v := (step_eq (N := 2000) (by decide) f1 h.drv).2.speed
  have := h.spc
  omega
theorem second1_ok {b : Int} {s : LiftState} (h : OkB b s) (ht : s.Time + 1 ≤ 20000000) : OkB b (second1 s) := by
  obtain ⟨f1, f2, f3, f4, f5, f6⟩ := id h.fit
  have sp := speed_ok h
  have t := h.time
  have ssp := h.line.spc
  have mo := move_ok h.line sp.1 (by omega)
  have lb := leftR_bound (d := (stepD s.Motor s.Drive).Speed) h.line s.Line.Load.length (Nat.le_refl _)
  have mp := move_people (l := s.Line) (stepD s.Motor s.Drive).Speed
  have pn := people_nonneg h
  have pp := h.ppl
  have u := h.up
  have o := h.off
  have pn' : 0 ≤ peopleS (moveR s.Line (stepD s.Motor s.Drive).Speed) := by
    have a := sum_le (b := 16) (l := (moveR s.Line (stepD s.Motor s.Drive).Speed).Load) (fun j hj => by have := mo.load j hj; omega) (moveR s.Line (stepD s.Motor s.Drive).Speed).Load.length (Nat.le_refl _)
    rw [List.take_length] at a
    exact a.1
  refine ⟨h.new, h.loop, h.spc, ?_, ⟨?_, ht⟩, ⟨f1, f2, f3, f4, f5, badA_later f6 (by show s.Time ≤ s.Time + 1; omega) ht⟩, (step_eq (N := 2000) (by decide) f1 h.drv).2, mo, h.que, h.brk, h.chn, h.chk, h.mode, u, ⟨?_, ?_⟩, ?_⟩
  · show ((ldsR s.Line _).length : Int) = _
    rw [ldsR_len]
    exact h.cnt
  · show 0 ≤ s.Time + 1
    omega
  · show 0 ≤ s.Off + leftR s.Line _ _
    omega
  · show s.Off + leftR s.Line _ _ ≤ b
    omega
  · show s.Up - (s.Off + leftR s.Line _ _) = peopleS (moveR s.Line _)
    omega
theorem pass_idx {b : Int} {s : LiftState} (h : OkB b s) (hp : passS s ≥ 0) : ∃ i : Nat, passS s = i ∧ i < s.Line.Load.length ∧ posR (second1 s).Line i < s.Line.Spacing ∧ posR (second1 s).Line i < s.Line.Loop / 2 ∧ (second1 s).Line.Load.getD i 0 = 0 := by
  have sp := speed_ok h
  unfold passS at *
  rcases passR_spec (l := s.Line) (d := (stepD s.Motor s.Drive).Speed) s.Line.Load.length with h0 | ⟨i, a, e, c⟩
  · omega
  · obtain ⟨p1, p2, p3⟩ := pass_free h.line sp.1 sp.2 a c
    exact ⟨i, e, a, p1, p2, p3⟩
theorem board_ok {b : Int} {s : LiftState} (h : OkB b s) {i : Nat} (hi : i < s.Line.Load.length) (hp : posR s.Line i < s.Line.Loop / 2) (hz : s.Line.Load.getD i 0 = 0) : OkB (b + 16) (boardS s i) := by
  obtain ⟨f1, f2, f3, f4, f5, f6⟩ := id h.fit
  obtain ⟨q1, q2, q3, q4⟩ := seat_ok h.que f4 f5
  have so := set_ok h.line hi q3 q4 fun _ => hp
  have sp := set_people s.Line hi (seatS s.Queue s.Lift.Seats).2
  have pp := h.ppl
  have u := h.up
  have o := h.off
  refine ⟨h.new, h.loop, h.spc, ?_, h.time, h.fit, h.drv, so, q1, h.brk, h.chn, h.chk, h.mode, ⟨?_, ?_⟩, ⟨o.1, ?_⟩, ?_⟩
  · show ((s.Line.Load.set i _).length : Int) = _
    rw [List.length_set]
    exact h.cnt
  · show 0 ≤ s.Up + _
    omega
  · show s.Up + _ ≤ b + 16
    omega
  · show s.Off ≤ b + 16
    omega
  · show s.Up + _ - s.Off = peopleS (setR s.Line i _)
    omega
theorem second2_ok {b : Int} {s : LiftState} (h : OkB b s) (ht : s.Time + 1 ≤ 20000000) : OkB (b + 16) (second2 s) := by
  have h1 := second1_ok h ht
  unfold second2
  cases hc : (decide (passS s ≥ 0) && s.Mode == 1) with
  | false => exact h1.mono (by omega)
  | true =>
    rw [Bool.and_eq_true, decide_eq_true_eq] at hc
    obtain ⟨i, e, a, p1, p2, p3⟩ := pass_idx h hc.1
    rw [cond_true, e, Int.toNat_natCast]
    refine board_ok h1 ?_ p2 p3
    show i < (ldsR s.Line _).length
    rw [ldsR_len]
    exact a
theorem guardS_time (s : LiftState) : (guardS s).Time = s.Time := by
  unfold guardS guard2
  cases ((guard1 s).Drive.State != 1) <;> cases ((guard1 s).Mode == 0) <;> cases (mayS (guard1 s) == 0) <;> cases (mayS (guard1 s) == 13 || mayS (guard1 s) == 14) <;> rfl
theorem second2_time (s : LiftState) : (second2 s).Time = s.Time + 1 := by
  unfold second2
  cases (decide (passS s ≥ 0) && s.Mode == 1) <;> rfl
theorem tickN_time (s : LiftState) (k : Nat) : (tickN s k).Time = s.Time + k := by
  induction k with
  | zero => show s.Time = s.Time + ((0 : Nat) : Int); omega
  | succ k ih =>
    show (guardS (second2 (tickN s k))).Time = _
    rw [guardS_time, second2_time, ih]
    omega
theorem tickN_ok {b : Int} {s : LiftState} (h : OkB b s) (k : Nat) (ht : s.Time + k ≤ 20000000) : OkB (b + 16 * k) (tickN s k) := by
  induction k with
  | zero => exact h.mono (by omega)
  | succ k ih =>
    have := ih (by omega)
    have t := tickN_time s k
    exact (guard_ok (second2_ok this (by omega))).mono (by omega)
/-! the events -/
inductive Did (s : LiftState) (e : LiftEvent) : LiftState → Prop
  | tick (hk : e.Kind = 1) (hn : 1 ≤ e.N ∧ e.N ≤ 600) (ht : s.Time + e.N ≤ 20000000) (hu : (tickN s e.N.toNat).Up ≤ 1125899906842624 ∧ (tickN s e.N.toNat).Off ≤ 1125899906842624) : Did s e (tickN s e.N.toNat)
  | open (hk : e.Kind = 2) (hm : s.Mode = 0) (hy : mayS s = 0) : Did s e (setMode s 1)
  | close (hk : e.Kind = 3) (hm : s.Mode = 1) : Did s e (setMode (setQueue s z_Queue) 3)
  | rescue (hk : e.Kind = 17) (hm : s.Mode ≠ 0 ∧ s.Mode ≠ 2) (hs : s.Drive.Speed = 0) (ht : s.Drive.State = 1 → s.Drive.Target ≤ 1000) : Did s e (setMode (setQueue s z_Queue) 2)
  | rescueH (hk : e.Kind = 17) (hm : s.Mode ≠ 0 ∧ s.Mode ≠ 2) (hs : s.Drive.Speed = 0) : Did s e (setMode (setQueue (setDrive s (haltD s.Drive)) z_Queue) 2)
  | bring (hk : e.Kind = 18) (hm : s.Mode = 2) (i : Nat) (hi : i < s.Line.Load.length) (hn : 0 ≤ e.N ∧ e.N ≤ s.Line.Load.getD i 0) (ho : s.Off + e.N ≤ 1125899906842624) : Did s e (setLine s (setR s.Line i (s.Line.Load.getD i 0 - e.N)) (s.Off + e.N))
  | rescued (hk : e.Kind = 19) (hm : s.Mode = 2) : Did s e (setMode s 0)
  | start (hk : e.Kind = 4) (hm : s.Mode ≠ 0) (hn : s.Mode = 2 → e.N ≤ 1000) (hz : (startD s.Motor s.Drive e.N).2 = 0) : Did s e (setDrive s (startD s.Motor s.Drive e.N).1)
  | stop (hk : e.Kind = 5) : Did s e (setDrive s (haltD s.Drive))
  | emerge (hk : e.Kind = 6) : Did s e (setDrive s (emerD s.Drive))
  | reset (hk : e.Kind = 7) (hz : (resetD s.Drive).2 = 0) : Did s e (setDrive s (resetD s.Drive).1)
  | chain (hk : 8 ≤ e.Kind ∧ e.Kind ≤ 12) (c : Chain) (hc : Ch.Val s.Chain → Ch.Val c) : Did s e (setChain s c)
  | test (hk : e.Kind = 13) (hz : (testB s.Brakes e.N e.M s.Time).2 = 0) : Did s e (setBrakes s (testB s.Brakes e.N e.M s.Time).1)
  | gust (hk : e.Kind = 14) (hz : (updA s.Wind e.N s.Time).2 = 0) : Did s e (setWind s (updA s.Wind e.N s.Time).1)
  | sign (hk : e.Kind = 15) (hz : (signC s.Checks e.N e.By s.Time).2 = 0) : Did s e (setChecks s (signC s.Checks e.N e.By s.Time).1)
  | join (hk : e.Kind = 16) (hm : s.Mode = 1) (hz : (joinS s.Queue e.N).2 = 0) : Did s e (setQueue s (joinS s.Queue e.N).1)
  | single (hk : e.Kind = 16) (hm : s.Mode = 1) (hz : (singleS s.Queue e.N).2 = 0) : Did s e (setQueue s (singleS s.Queue e.N).1)
theorem did_rescue {s : LiftState} {e : LiftEvent} (hk : e.Kind = 17) (hz : (rescueS s).2 = 0) : Did s e (rescueS s).1 := by
  unfold rescueS at *
  cases h1 : (s.Mode == 0 || s.Mode == 2) with
  | true => rw [h1] at hz; cases hz
  | false =>
    cases h2 : (s.Drive.Speed != 0) with
    | true => rw [h1, h2] at hz; cases hz
    | false =>
      simp only [cond_false]
      simp only [Bool.or_eq_false_iff, beq_eq_false_iff_ne] at h1
      rw [bne_eq_false_iff_eq] at h2
      cases h3 : (s.Drive.State == 1 && decide (s.Drive.Target > 1000)) with
      | true => exact .rescueH hk h1 h2
      | false =>
        rw [Bool.and_eq_false_iff, beq_eq_false_iff_ne, decide_eq_false_iff_not] at h3
        exact .rescue hk h1 h2 fun h => by rcases h3 with h3 | h3 <;> omega
theorem did_bring {s : LiftState} {e : LiftEvent} (hk : e.Kind = 18) (hz : (bringS s e.M e.N).2 = 0) : Did s e (bringS s e.M e.N).1 := by
  unfold bringS takeR at *
  cases h1 : (s.Mode != 2) with
  | true => rw [h1] at hz; cases hz
  | false =>
    cases h2 : (s.Drive.Speed != 0) with
    | true => rw [h1, h2] at hz; cases hz
    | false =>
      cases h3 : (!(decide (e.M ≥ 0) && decide (e.M < (s.Line.Load.length : Int)))) with
      | true => rw [h1, h2, h3] at hz; cases hz
      | false =>
        cases h4 : (decide (e.N < 0) || decide (e.N > s.Line.Load.getD e.M.toNat 0)) with
        | true => rw [h1, h2, h3, h4] at hz; cases hz
        | false =>
          cases h5 : decide (s.Off + e.N > 1125899906842624) with
          | true => rw [h1, h2, h3, h4, h5] at hz; cases hz
          | false =>
            simp only [Bool.not_eq_false', Bool.and_eq_true, Bool.or_eq_false_iff, decide_eq_true_eq, decide_eq_false_iff_not, bne_eq_false_iff_eq] at h1 h3 h4 h5
            exact .bring hk h1 e.M.toNat (by omega) (by omega) (by omega)
theorem act_did {s : LiftState} {e : LiftEvent} (hz : (actS s e).2 = 0) : Did s e (actS s e).1 := by
  unfold actS at *
  cases k1 : e.Kind == 1 with
  | true =>
    rw [k1, cond_true] at hz
    rw [beq_iff_eq] at k1
    rw [cond_true]
    unfold tickS at *
    cases h1 : (decide (e.N < 1) || (decide (e.N > 600) || decide (s.Time + e.N > 20000000))) with
    | true => rw [h1] at hz; cases hz
    | false =>
      cases h2 : (decide ((tickN s e.N.toNat).Up > 1125899906842624) || decide ((tickN s e.N.toNat).Off > 1125899906842624)) with
      | true => rw [h1, h2] at hz; cases hz
      | false =>
        simp only [Bool.or_eq_false_iff, decide_eq_false_iff_not] at h1 h2
        exact .tick k1 (by omega) (by omega) (by omega)
  | false =>
  rw [k1, cond_false] at hz
  rw [cond_false]
  cases k2 : e.Kind == 2 with
  | true =>
    rw [k2, cond_true] at hz
    rw [beq_iff_eq] at k2
    rw [cond_true]
    cases h1 : (s.Mode != 0) with
    | true => rw [h1] at hz; cases hz
    | false =>
      cases h2 : (mayS s != 0) with
      | true => rw [h1, h2] at hz; rw [bne_iff_ne] at h2; exact absurd hz h2
      | false => rw [bne_eq_false_iff_eq] at h1 h2; exact .open k2 h1 h2
  | false =>
  rw [k2, cond_false] at hz
  rw [cond_false]
  cases k3 : e.Kind == 3 with
  | true =>
    rw [k3, cond_true] at hz
    rw [beq_iff_eq] at k3
    rw [cond_true]
    cases h1 : (s.Mode != 1) with
    | true => rw [h1] at hz; cases hz
    | false => rw [bne_eq_false_iff_eq] at h1; exact .close k3 h1
  | false =>
  rw [k3, cond_false] at hz
  rw [cond_false]
  cases k17 : e.Kind == 17 with
  | true =>
    rw [k17, cond_true] at hz
    rw [beq_iff_eq] at k17
    exact did_rescue k17 hz
  | false =>
  rw [k17, cond_false] at hz
  rw [cond_false]
  cases k18 : e.Kind == 18 with
  | true =>
    rw [k18, cond_true] at hz
    rw [beq_iff_eq] at k18
    exact did_bring k18 hz
  | false =>
  rw [k18, cond_false] at hz
  rw [cond_false]
  cases k19 : e.Kind == 19 with
  | true =>
    rw [k19, cond_true] at hz
    rw [beq_iff_eq] at k19
    rw [cond_true]
    cases h1 : (s.Mode != 2) with
    | true => rw [h1] at hz; cases hz
    | false =>
      cases h2 : decide (peopleS s.Line > 0) with
      | true => rw [h1, h2] at hz; cases hz
      | false => rw [bne_eq_false_iff_eq] at h1; exact .rescued k19 h1
  | false =>
  rw [k19, cond_false] at hz
  rw [cond_false]
  cases k4 : e.Kind == 4 with
  | true =>
    rw [k4, cond_true] at hz
    rw [beq_iff_eq] at k4
    rw [cond_true]
    cases h1 : (s.Mode == 0) with
    | true => rw [h1] at hz; cases hz
    | false =>
      cases h2 : (s.Mode == 2 && decide (e.N > 1000)) with
      | true => rw [h1, h2] at hz; cases hz
      | false =>
        cases h3 : (mayS s != 0) with
        | true => rw [h1, h2, h3] at hz; rw [bne_iff_ne] at h3; exact absurd hz h3
        | false =>
          rw [h1, h2, h3] at hz
          rw [beq_eq_false_iff_ne] at h1
          rw [Bool.and_eq_false_iff, beq_eq_false_iff_ne, decide_eq_false_iff_not] at h2
          exact .start k4 h1 (fun h => by rcases h2 with h2 | h2 <;> omega) hz
  | false =>
  rw [k4, cond_false] at hz
  rw [cond_false]
  cases k5 : e.Kind == 5 with
  | true => rw [beq_iff_eq] at k5; exact .stop k5
  | false =>
  rw [k5, cond_false] at hz
  rw [cond_false]
  cases k6 : e.Kind == 6 with
  | true => rw [beq_iff_eq] at k6; exact .emerge k6
  | false =>
  rw [k6, cond_false] at hz
  rw [cond_false]
  cases k7 : e.Kind == 7 with
  | true => rw [k7] at hz; rw [beq_iff_eq] at k7; exact .reset k7 hz
  | false =>
  rw [k7, cond_false] at hz
  rw [cond_false]
  cases k8 : e.Kind == 8 with
  | true => rw [k8] at hz; rw [beq_iff_eq] at k8; exact .chain (by omega) _ fun v => Ch.Did.val v (Ch.did (c := s.Chain) (x := ⟨0, e.N, 0, 0⟩) hz)
  | false =>
  rw [k8, cond_false] at hz
  rw [cond_false]
  cases k9 : e.Kind == 9 with
  | true => rw [k9] at hz; rw [beq_iff_eq] at k9; exact .chain (by omega) _ fun v => Ch.Did.val v (Ch.did (c := s.Chain) (x := ⟨1, e.N, 0, 0⟩) hz)
  | false =>
  rw [k9, cond_false] at hz
  rw [cond_false]
  cases k10 : e.Kind == 10 with
  | true => rw [k10] at hz; rw [beq_iff_eq] at k10; exact .chain (by omega) _ fun v => Ch.Did.val v (Ch.did (c := s.Chain) (x := ⟨2, e.N, e.By, 0⟩) hz)
  | false =>
  rw [k10, cond_false] at hz
  rw [cond_false]
  cases k11 : e.Kind == 11 with
  | true => rw [k11] at hz; rw [beq_iff_eq] at k11; exact .chain (by omega) _ fun v => Ch.Did.val v (Ch.did (c := s.Chain) (x := ⟨3, 0, e.By, 0⟩) hz)
  | false =>
  rw [k11, cond_false] at hz
  rw [cond_false]
  cases k12 : e.Kind == 12 with
  | true =>
    rw [k12, cond_true] at hz
    rw [beq_iff_eq] at k12
    rw [cond_true]
    cases h1 : (decide (e.M < 1) || decide (e.M > 3600)) with
    | true => rw [h1] at hz; cases hz
    | false =>
      rw [h1] at hz
      exact .chain (by omega) _ fun v => Ch.Did.val v (Ch.did (c := s.Chain) (x := ⟨4, e.N, e.By, s.Time + e.M⟩) hz)
  | false =>
  rw [k12, cond_false] at hz
  rw [cond_false]
  cases k13 : e.Kind == 13 with
  | true =>
    rw [k13, cond_true] at hz
    rw [beq_iff_eq] at k13
    rw [cond_true]
    cases h1 : (s.Drive.State != 0) with
    | true => rw [h1] at hz; cases hz
    | false => rw [h1] at hz; exact .test k13 hz
  | false =>
  rw [k13, cond_false] at hz
  rw [cond_false]
  cases k14 : e.Kind == 14 with
  | true => rw [k14] at hz; rw [beq_iff_eq] at k14; exact .gust k14 hz
  | false =>
  rw [k14, cond_false] at hz
  rw [cond_false]
  cases k15 : e.Kind == 15 with
  | true => rw [k15] at hz; rw [beq_iff_eq] at k15; exact .sign k15 hz
  | false =>
  rw [k15, cond_false] at hz
  rw [cond_false]
  cases k16 : e.Kind == 16 with
  | true =>
    rw [k16, cond_true] at hz
    rw [beq_iff_eq] at k16
    rw [cond_true]
    cases h1 : (s.Mode != 1) with
    | true => rw [h1] at hz; cases hz
    | false =>
      cases h2 : (e.M == 0) with
      | true => rw [h1, h2] at hz; rw [bne_eq_false_iff_eq] at h1; exact .join k16 h1 hz
      | false =>
        cases h3 : (e.M == 1) with
        | true => rw [h1, h2, h3] at hz; rw [bne_eq_false_iff_eq] at h1; exact .single k16 h1 hz
        | false => rw [h1, h2, h3] at hz; cases hz
  | false => rw [k16] at hz; cases hz
theorem did_ok {s s' : LiftState} {e : LiftEvent} (h : Ok s) (d : Did s e s') : Ok s' := by
  have md := h.mode
  cases d with
  | tick hk hn ht hu =>
    have a := tickN_ok h e.N.toNat (by omega)
    exact ⟨a.new, a.loop, a.spc, a.cnt, a.time, a.fit, a.drv, a.line, a.que, a.brk, a.chn, a.chk, a.mode, ⟨a.up.1, hu.1⟩, ⟨a.off.1, hu.2⟩, a.ppl⟩
  | «open» hk hm hy => exact setMode_ok h (by omega)
  | close hk hm => exact setMode_ok (setQueue_ok h qok_empty) (by omega)
  | rescue hk hm hs => exact setMode_ok (setQueue_ok h qok_empty) (by omega)
  | rescueH hk hm hs => exact setMode_ok (setQueue_ok (setDrive_ok h (halt_ok h.drv).1) qok_empty) (by omega)
  | bring hk hm i hi hn ho =>
    have q := h.line.load i hi
    have so := set_ok (n := s.Line.Load.getD i 0 - e.N) h.line hi (by omega) (by omega) fun hne => q.2.2 (by omega)
    have sp := set_people s.Line hi (s.Line.Load.getD i 0 - e.N)
    have pp := h.ppl
    have o := h.off
    refine ⟨h.new, h.loop, h.spc, ?_, h.time, h.fit, h.drv, so, h.que, h.brk, h.chn, h.chk, h.mode, h.up, ⟨?_, ho⟩, ?_⟩
    · show ((s.Line.Load.set i _).length : Int) = _
      rw [List.length_set]
      exact h.cnt
    · show 0 ≤ s.Off + e.N
      omega
    · show s.Up - (s.Off + e.N) = peopleS (setR s.Line i _)
      omega
  | rescued hk hm => exact setMode_ok h (by omega)
  | start hk hm hn hz => exact setDrive_ok h (start_ok h.drv hz).1
  | stop hk => exact setDrive_ok h (halt_ok h.drv).1
  | emerge hk => exact setDrive_ok h (emer_ok h.drv).1
  | reset hk hz => exact setDrive_ok h (reset_ok h.drv hz).1
  | chain hk c hc => exact setChain_ok h (hc h.chn)
  | test hk hz => exact ⟨h.new, h.loop, h.spc, h.cnt, h.time, h.fit, h.drv, h.line, h.que, testB_ok h.brk hz, h.chn, h.chk, h.mode, h.up, h.off, h.ppl⟩
  | gust hk hz =>
    obtain ⟨f1, f2, f3, f4, f5, f6⟩ := id h.fit
    exact ⟨h.new, h.loop, h.spc, h.cnt, h.time, ⟨f1, f2, f3, f4, f5, updA_ok f6 (Int.le_refl _) h.time.2 hz⟩, h.drv, h.line, h.que, h.brk, h.chn, h.chk, h.mode, h.up, h.off, h.ppl⟩
  | sign hk hz => exact ⟨h.new, h.loop, h.spc, h.cnt, h.time, h.fit, h.drv, h.line, h.que, h.brk, h.chn, signC_ok hz, h.mode, h.up, h.off, h.ppl⟩
  | join hk hm hz => exact setQueue_ok h (join_ok h.que hz).1
  | single hk hm hz => exact setQueue_ok h (single_ok h.que hz).1
theorem do_ok {s : LiftState} {e : LiftEvent} (h : Ok s) (hz : (doS s e).2 = 0) : Ok (doS s e).1 := by
  unfold doS at *
  cases h1 : ((actS s e).2 != 0) with
  | true => rw [h1] at hz; rw [bne_iff_ne] at h1; exact absurd hz h1
  | false =>
    rw [bne_eq_false_iff_eq] at h1
    have a := did_ok h (act_did h1)
    rw [cond_false]
    cases (e.Kind == 1) with
    | true => exact a
    | false => exact guard_ok a
end Go.Proofs.YthjmbcnohgaihaaGreat

/- The lift: Do is the plain function doS. No condition. -/
namespace Go.Proofs.YthjmbcnohgaihaaGreat
open Go.Cm Go.Proofs
section
variable (N : Nat)
def mkD (r : LiftState) (d : Drive) : LiftState := LiftState.mk r.Lift r.Motor d r.Brakes r.Chain r.Wind r.Line r.Queue r.Checks r.Time r.Mode r.Up r.Off
def guardK {β : Type} (p : LiftState) (K : LiftState → Option β) : Option β :=
  (chain_Expire N p.Chain p.Time).bind fun (r13 : Chain) =>
    (bif p.Mode == (3 : Int) then (rope_People N p.Line).bind fun (r14 : Int) => some (r14 == (0 : Int)) else some false).bind fun (r15 : Bool) =>
      (bif r15 then some (LiftState.mk p.Lift p.Motor p.Drive p.Brakes r13 p.Wind p.Line p.Queue p.Checks p.Time (0 : Int) p.Up p.Off)
        else some (LiftState.mk p.Lift p.Motor p.Drive p.Brakes r13 p.Wind p.Line p.Queue p.Checks p.Time p.Mode p.Up p.Off)).bind fun (r16 : LiftState) =>
        bif r16.Drive.State != (1 : Int) then K r16
        else
          bif r16.Mode == (0 : Int) then (drive_Halt N r16.Motor r16.Drive).bind fun (r17 : Drive) => K (mkD r16 r17)
          else
            (lift_May N r16).bind fun (r18 : Int) =>
              (bif r18 == (0 : Int) then some r16
                else
                  (bif r18 == (13 : Int) then some (r18 == (13 : Int)) else some (r18 == (14 : Int))).bind fun (r19 : Bool) =>
                    (bif r19 then (drive_Emergency N r16.Motor r16.Drive).bind fun (r20 : Drive) => some (mkD r16 r20)
                      else (drive_Halt N r16.Motor r16.Drive).bind fun (r21 : Drive) => some (mkD r16 r21)).bind fun (r22 : LiftState) => some r22).bind fun (r23 : LiftState) => K r23
def finF (e : LiftEvent) (p : LiftState) : Option (LiftState × Int) := (bif e.Kind != (1 : Int) then guardK N p some else some p).bind fun r => some (r, (0 : Int))
def finE (e : LiftEvent) (q : Int × LiftState) : Option (LiftState × Int) := bif q.1 != (0 : Int) then some (z_LiftState, q.1) else finF N e q.2
def el {α β : Type} (x : Option (α ⊕ β)) : Option (α ⊕ β) := x.bind fun r => Sum.elim (fun p => some (Sum.inl p)) (fun p => some (Sum.inr p)) r
def mkS (p : LiftState) (d : Drive) (l : Line) (q : Queue) (u o : Int) : LiftState := LiftState.mk p.Lift p.Motor d p.Brakes p.Chain p.Wind l q p.Checks (IntKind.i64.wrap (p.Time + (1 : Int))) p.Mode u o
def tickB (n : Int) (p5 : Int × LiftState) : Option ((Int × LiftState) ⊕ (LiftState ⊕ (Int × LiftState))) :=
  bif decide (p5.fst < n) then
    (drive_Step N p5.snd.Motor p5.snd.Drive (1 : Int)).bind fun (r6 : Drive) =>
      (rope_Move N p5.snd.Line r6.Speed).bind fun (r7 : Line × Int × Int × Int) =>
        bif r7.snd.snd.snd != (0 : Int) then some (Sum.inr (Sum.inr (r7.snd.snd.snd, mkS p5.snd r6 p5.snd.Line p5.snd.Queue p5.snd.Up p5.snd.Off)))
        else
          (bif decide (r7.snd.fst ≥ (0 : Int)) then some (p5.snd.Mode == (1 : Int)) else some false).bind fun (r8 : Bool) =>
            (bif r8 then
                (queue_Seat N p5.snd.Queue p5.snd.Lift.Seats).bind fun (r9 : Queue × Int × Int) =>
                  bif r9.snd.snd != (0 : Int) then
                    bif r9.snd.snd != (0 : Int) then some (Sum.inr (r9.snd.snd, mkS p5.snd r6 r7.fst p5.snd.Queue p5.snd.Up (IntKind.i64.wrap (p5.snd.Off + r7.snd.snd.fst))))
                    else some (Sum.inl (mkS p5.snd r6 r7.fst p5.snd.Queue p5.snd.Up (IntKind.i64.wrap (p5.snd.Off + r7.snd.snd.fst))))
                  else
                    (rope_Load N r7.fst r7.snd.fst r9.snd.fst p5.snd.Lift.Seats).bind fun (r10 : Line × Int) =>
                      bif r10.snd != (0 : Int) then
                        bif r10.snd != (0 : Int) then some (Sum.inr (r10.snd, mkS p5.snd r6 r7.fst p5.snd.Queue p5.snd.Up (IntKind.i64.wrap (p5.snd.Off + r7.snd.snd.fst))))
                        else some (Sum.inl (mkS p5.snd r6 r7.fst p5.snd.Queue p5.snd.Up (IntKind.i64.wrap (p5.snd.Off + r7.snd.snd.fst))))
                      else some (Sum.inl (mkS p5.snd r6 r10.fst r9.fst (IntKind.i64.wrap (p5.snd.Up + r9.snd.fst)) (IntKind.i64.wrap (p5.snd.Off + r7.snd.snd.fst))))
              else some (Sum.inl (mkS p5.snd r6 r7.fst p5.snd.Queue p5.snd.Up (IntKind.i64.wrap (p5.snd.Off + r7.snd.snd.fst))))).bind fun (r11 : LiftState ⊕ Int × LiftState) =>
              Sum.elim (fun (p12 : LiftState) => guardK N p12 fun r => some (Sum.inl (IntKind.i64.wrap (p5.fst + (1 : Int)), r))) (fun (p24 : Int × LiftState) => some (Sum.inr (Sum.inr p24))) r11
  else some (Sum.inr (Sum.inl p5.snd))
def doF (x0 : LiftState) (x1 : LiftEvent) : Option (LiftState × Int) :=
  (lift_Right N x0).bind fun (r2 : Bool) =>
    bif !r2 then some (z_LiftState, (1 : Int))
    else
      (lift_clone N x0).bind fun (r3 : LiftState) =>
        bif x1.Kind == (1 : Int) then
          (bif decide (x1.N < (1 : Int)) then some true else bif decide (x1.N > (600 : Int)) then some true else some (decide (IntKind.i64.wrap (r3.Time + x1.N) > (20000000 : Int)))).bind fun (r4 : Bool) =>
            bif r4 then some (z_LiftState, (2 : Int))
            else
              (whileF N (tickB N x1.N) ((0 : Int), r3)).bind fun (r25 : LiftState ⊕ Int × LiftState) =>
                Sum.elim
                  (fun (p26 : LiftState) =>
                    (bif decide (p26.Up > (1125899906842624 : Int)) then some true else some (decide (p26.Off > (1125899906842624 : Int)))).bind fun (r27 : Bool) =>
                      bif r27 then some (z_LiftState, (12 : Int)) else finF N x1 p26)
                  (finE N x1) r25
        else
          (bif x1.Kind == (2 : Int) then some (x1.Kind == (2 : Int))
              else (bif x1.Kind == (3 : Int) then some (x1.Kind == (3 : Int))
                    else (bif x1.Kind == (17 : Int) then some (x1.Kind == (17 : Int))
                          else (bif x1.Kind == (18 : Int) then some (x1.Kind == (18 : Int)) else some (x1.Kind == (19 : Int))).bind fun (r53 : Bool) => some r53).bind
                        fun (r54 : Bool) => some r54).bind
                  fun (r55 : Bool) => some r55).bind
            fun (r56 : Bool) =>
            bif r56 then
              (bif x1.Kind == (2 : Int) then
                    bif r3.Mode != (0 : Int) then some (Sum.inr ((10 : Int), r3))
                    else (lift_May N r3).bind fun (r57 : Int) => bif r57 != (0 : Int) then some (Sum.inr (r57, r3)) else some (Sum.inl (setMode r3 1))
                  else
                    el (bif x1.Kind == (3 : Int) then
                          bif r3.Mode != (1 : Int) then some (Sum.inr ((10 : Int), r3)) else some (Sum.inl (setMode (setQueue r3 z_Queue) 3))
                        else
                          bif x1.Kind == (17 : Int) then
                            (bif r3.Mode == (0 : Int) then some true else some (r3.Mode == (2 : Int))).bind fun (r58 : Bool) =>
                              bif r58 then some (Sum.inr ((10 : Int), r3))
                              else
                                bif r3.Drive.Speed != (0 : Int) then some (Sum.inr ((13 : Int), r3))
                                else
                                  (bif r3.Drive.State == (1 : Int) then some (decide (r3.Drive.Target > (1000 : Int))) else some false).bind fun (r59 : Bool) =>
                                    (bif r59 then (drive_Halt N r3.Motor r3.Drive).bind fun (r60 : Drive) => some (setMode (setQueue (setDrive r3 r60) z_Queue) 2)
                                        else some (setMode (setQueue r3 z_Queue) 2)).bind fun (r61 : LiftState) => some (Sum.inr ((0 : Int), r61))
                          else
                            bif x1.Kind == (18 : Int) then
                              bif r3.Mode != (2 : Int) then some (Sum.inr ((10 : Int), r3))
                              else
                                bif r3.Drive.Speed != (0 : Int) then some (Sum.inr ((13 : Int), r3))
                                else
                                  (rope_Take N r3.Line x1.M x1.N).bind fun (r62 : Line × Int) =>
                                    bif r62.snd != (0 : Int) then some (Sum.inr (r62.snd, r3))
                                    else
                                      bif decide (IntKind.i64.wrap (r3.Off + x1.N) > (1125899906842624 : Int)) then some (Sum.inr ((12 : Int), r3))
                                      else some (Sum.inr ((0 : Int), setLine r3 r62.fst (IntKind.i64.wrap (r3.Off + x1.N))))
                            else
                              el (bif x1.Kind == (19 : Int) then
                                    bif r3.Mode != (2 : Int) then some (Sum.inr ((10 : Int), r3))
                                    else (rope_People N r3.Line).bind fun (r63 : Int) => bif decide (r63 > (0 : Int)) then some (Sum.inr ((13 : Int), r3)) else some (Sum.inl (setMode r3 0))
                                  else some (Sum.inl r3)))).bind
                fun (r70 : LiftState ⊕ Int × LiftState) => Sum.elim (finF N x1) (finE N x1) r70
            else
              (bif x1.Kind == (4 : Int) then some (x1.Kind == (4 : Int))
                  else (bif x1.Kind == (5 : Int) then some (x1.Kind == (5 : Int))
                        else (bif x1.Kind == (6 : Int) then some (x1.Kind == (6 : Int)) else some (x1.Kind == (7 : Int))).bind fun (r97 : Bool) => some r97).bind
                      fun (r98 : Bool) => some r98).bind
                fun (r99 : Bool) =>
                bif r99 then
                  (bif x1.Kind == (4 : Int) then
                        bif r3.Mode == (0 : Int) then some (Sum.inr ((10 : Int), r3))
                        else
                          (bif r3.Mode == (2 : Int) then some (decide (x1.N > (1000 : Int))) else some false).bind fun (r100 : Bool) =>
                            bif r100 then some (Sum.inr ((2 : Int), r3))
                            else
                              (lift_May N r3).bind fun (r101 : Int) =>
                                bif r101 != (0 : Int) then some (Sum.inr (r101, r3))
                                else (drive_Start N r3.Motor r3.Drive x1.N).bind fun (r102 : Drive × Int) => some (Sum.inl (r102.snd, setDrive r3 r102.fst))
                      else
                        (bif x1.Kind == (5 : Int) then (drive_Halt N r3.Motor r3.Drive).bind fun (r103 : Drive) => some ((0 : Int), setDrive r3 r103)
                            else
                              (bif x1.Kind == (6 : Int) then (drive_Emergency N r3.Motor r3.Drive).bind fun (r104 : Drive) => some ((0 : Int), setDrive r3 r104)
                                  else
                                    (bif x1.Kind == (7 : Int) then (drive_Reset N r3.Motor r3.Drive).bind fun (r105 : Drive × Int) => some (r105.snd, setDrive r3 r105.fst)
                                        else some ((0 : Int), r3)).bind fun (r106 : Int × LiftState) => some r106).bind
                                fun (r107 : Int × LiftState) => some r107).bind
                          fun (r108 : Int × LiftState) => some (Sum.inl r108)).bind
                    fun (r109 : Int × LiftState ⊕ Int × LiftState) => Sum.elim (finE N x1) (finE N x1) r109
                else
                  (bif x1.Kind == (8 : Int) then some (x1.Kind == (8 : Int))
                      else (bif x1.Kind == (9 : Int) then some (x1.Kind == (9 : Int))
                            else (bif x1.Kind == (10 : Int) then some (x1.Kind == (10 : Int))
                                  else (bif x1.Kind == (11 : Int) then some (x1.Kind == (11 : Int)) else some (x1.Kind == (12 : Int))).bind fun (r136 : Bool) => some r136).bind
                                fun (r137 : Bool) => some r137).bind
                          fun (r138 : Bool) => some r138).bind
                    fun (r139 : Bool) =>
                    bif r139 then
                      (bif x1.Kind == (8 : Int) then (chain_Break N r3.Chain x1.N).bind fun (r140 : Chain × Int) => some (Sum.inl (r140.snd, setChain r3 r140.fst))
                          else
                            el (bif x1.Kind == (9 : Int) then (chain_Make N r3.Chain x1.N).bind fun (r141 : Chain × Int) => some (Sum.inl (r141.snd, setChain r3 r141.fst))
                                else
                                  el (bif x1.Kind == (10 : Int) then (chain_Clear N r3.Chain x1.N x1.By).bind fun (r142 : Chain × Int) => some (Sum.inl (r142.snd, setChain r3 r142.fst))
                                      else
                                        el (bif x1.Kind == (11 : Int) then (chain_Take N r3.Chain x1.By).bind fun (r143 : Chain × Int) => some (Sum.inl (r143.snd, setChain r3 r143.fst))
                                            else
                                              el (bif x1.Kind == (12 : Int) then
                                                    (bif decide (x1.M < (1 : Int)) then some true else some (decide (x1.M > (3600 : Int)))).bind fun (r144 : Bool) =>
                                                      bif r144 then some (Sum.inr ((2 : Int), r3))
                                                      else (chain_Bypass N r3.Chain x1.N x1.By (IntKind.i64.wrap (r3.Time + x1.M))).bind fun (r145 : Chain × Int) => some (Sum.inl (r145.snd, setChain r3 r145.fst))
                                                  else some (Sum.inl ((0 : Int), r3))))))).bind
                        fun (r158 : Int × LiftState ⊕ Int × LiftState) => Sum.elim (finE N x1) (finE N x1) r158
                    else
                      (bif x1.Kind == (13 : Int) then some (x1.Kind == (13 : Int))
                          else (bif x1.Kind == (14 : Int) then some (x1.Kind == (14 : Int))
                                else (bif x1.Kind == (15 : Int) then some (x1.Kind == (15 : Int)) else some (x1.Kind == (16 : Int))).bind fun (r185 : Bool) => some r185).bind
                              fun (r186 : Bool) => some r186).bind
                        fun (r187 : Bool) =>
                        bif r187 then
                          (bif x1.Kind == (13 : Int) then
                                bif r3.Drive.State != (0 : Int) then some (Sum.inr ((10 : Int), r3))
                                else (brake_Test N r3.Brakes x1.N x1.M r3.Time).bind fun (r188 : List Brake × Int) => some (Sum.inl (r188.snd, setBrakes r3 r188.fst))
                              else
                                el (bif x1.Kind == (14 : Int) then (weather_Update N r3.Wind x1.N r3.Time).bind fun (r189 : Alarm × Int) => some (Sum.inl (r189.snd, setWind r3 r189.fst))
                                    else
                                      el (bif x1.Kind == (15 : Int) then (inspect_Sign N r3.Checks x1.N x1.By r3.Time).bind fun (r190 : Checklist × Int) => some (Sum.inl (r190.snd, setChecks r3 r190.fst))
                                          else
                                            el (bif x1.Kind == (16 : Int) then
                                                  bif r3.Mode != (1 : Int) then some (Sum.inr ((10 : Int), r3))
                                                  else
                                                    el (bif x1.M == (0 : Int) then (queue_Join N r3.Queue x1.N).bind fun (r191 : Queue × Int) => some (Sum.inl (r191.snd, setQueue r3 r191.fst))
                                                        else
                                                          bif x1.M == (1 : Int) then (queue_Single N r3.Queue x1.N).bind fun (r192 : Queue × Int) => some (Sum.inl (r192.snd, setQueue r3 r192.fst))
                                                          else some (Sum.inr ((2 : Int), r3)))
                                                else some (Sum.inl ((0 : Int), r3)))))).bind
                            fun (r205 : Int × LiftState ⊕ Int × LiftState) => Sum.elim (finE N x1) (finE N x1) r205
                        else some (z_LiftState, (18 : Int))
theorem do_form (s : LiftState) (e : LiftEvent) : lift_Do N s e = doF N s e := by kernel_rfl
end
end Go.Proofs.YthjmbcnohgaihaaGreat

/- The lift: Do is the plain function doS (2). No condition. -/
namespace Go.Proofs.YthjmbcnohgaihaaGreat
open Go.Cm Go.Proofs
theorem el_eq {α β : Type} (x : Option (α ⊕ β)) : el x = x := by
  cases x with
  | none => rfl
  | some r => cases r <;> rfl
section
variable {N : Nat} (hN : 1000 < N)
include hN
theorem guardK_eq {b : Int} {s : LiftState} (h : OkB b s) {β : Type} (K : LiftState → Option β) : guardK N s K = K (guardS s) := by
  obtain ⟨_, _, _, f4, f5, _⟩ := id h.fit
  have g1 := guard1_ok h
  have c := h.chn.len
  unfold guardK
  rw [Ch.expire_eq hN (show s.Chain.Contacts.length ≤ 1000 by omega), Option.bind_some, people_eq hN h.line f5]
  simp only [Option.bind_some, cond_and]
  have e1 : (bif s.Mode == 3 && peopleS s.Line == 0 then some (LiftState.mk s.Lift s.Motor s.Drive s.Brakes (Ch.expS s.Chain s.Time) s.Wind s.Line s.Queue s.Checks s.Time (0 : Int) s.Up s.Off)
        else some (LiftState.mk s.Lift s.Motor s.Drive s.Brakes (Ch.expS s.Chain s.Time) s.Wind s.Line s.Queue s.Checks s.Time s.Mode s.Up s.Off)) = some (guard1 s) := by
    unfold guard1
    cases (s.Mode == 3 && peopleS s.Line == 0) <;> rfl
  rw [e1, Option.bind_some]
  show _ = K (guard2 (guard1 s))
  generalize guard1 s = r at g1 ⊢
  unfold guard2
  cases (r.Drive.State != 1) with
  | true => rfl
  | false =>
    simp only [cond_false]
    cases (r.Mode == 0) with
    | true => rw [cond_true, cond_true, halt_eq]; rfl
    | false =>
      rw [cond_false, cond_false, may_eq hN g1, Option.bind_some]
      cases (mayS r == 0) with
      | true => rfl
      | false =>
        simp only [cond_false, halt_eq]
        cases (mayS r == 13) with
        | true => rfl
        | false =>
          cases (mayS r == 14) with
          | true => rfl
          | false => rfl
theorem finF_eq {b : Int} {s : LiftState} (h : OkB b s) {e : LiftEvent} (hk : e.Kind ≠ 1) : finF N e s = some (guardS s, 0) := by
  unfold finF
  have : (e.Kind != 1) = true := by rw [bne_iff_ne]; exact hk
  rw [this, cond_true, guardK_eq hN h]
  rfl
omit hN in
theorem finF_one {s : LiftState} {e : LiftEvent} (hk : e.Kind = 1) : finF N e s = some (s, 0) := by
  unfold finF
  rw [hk]
  rfl
theorem finE_eq {b : Int} {s : LiftState} {z : Int} (h : z = 0 → OkB b s) {e : LiftEvent} (hk : e.Kind ≠ 1) : finE N e (z, s) = some (bif z != 0 then (z_LiftState, z) else (guardS s, 0)) := by
  unfold finE
  cases hz : z != 0 with
  | true => rfl
  | false =>
    rw [bne_eq_false_iff_eq] at hz
    rw [cond_false, cond_false]
    exact finF_eq hN (h hz) hk
/-! a second -/
theorem tickB_eq {b : Int} (hb : b ≤ 1125899906852224) {s : LiftState} (h : OkB b s) (ht : s.Time + 1 ≤ 20000000) {n : Int} {k : Nat} (hk : (k : Int) < n) (hn : n ≤ 600) : tickB N n ((k : Int), s) = some (Sum.inl (((k + 1 : Nat) : Int), guardS (second2 s))) := by
  obtain ⟨f1, f2, f3, f4, f5, f6⟩ := id h.fit
  have st := (step_eq hN f1 h.drv).1
  have sp := speed_ok h
  have t := h.time
  have s2 := second2_ok h ht
  have s1 := second1_ok h ht
  have u := h.up
  have o := h.off
  have u1 := s1.up
  have o1 := s1.off
  have o1' : s.Off + leftR s.Line (stepD s.Motor s.Drive).Speed s.Line.Load.length ≤ b := o1.2
  have o1'' : 0 ≤ s.Off + leftR s.Line (stepD s.Motor s.Drive).Speed s.Line.Load.length := o1.1
  have ssp := h.line.spc
  unfold tickB
  have c1 : decide ((k : Int) < n) = true := by rw [decide_eq_true_eq]; exact hk
  simp only [c1, cond_true, st, Option.bind_some, move_eq hN h.line f5 sp.1 (show (stepD s.Motor s.Drive).Speed ≤ s.Line.Spacing by omega), bne_self_eq_false, cond_false, cond_and, wrapC (show k < 9223372036854775807 by omega), wrap64 (z := s.Off + leftR s.Line (stepD s.Motor s.Drive).Speed s.Line.Load.length) (by omega) (by omega)]
  have e1 : mkS s (stepD s.Motor s.Drive) (moveR s.Line (stepD s.Motor s.Drive).Speed) s.Queue s.Up (s.Off + leftR s.Line (stepD s.Motor s.Drive).Speed s.Line.Load.length) = second1 s := by
    unfold mkS
    rw [wrap64 (by omega) (by omega)]
    rfl
  unfold second2 at s2 ⊢
  have e0 : (decide (passR s.Line (stepD s.Motor s.Drive).Speed s.Line.Load.length ≥ 0) && s.Mode == 1) = (decide (passS s ≥ 0) && s.Mode == 1) := rfl
  rw [e0]
  cases hc : (decide (passS s ≥ 0) && s.Mode == 1) with
  | false =>
    rw [hc, cond_false] at s2
    simp only [cond_false, Option.bind_some, e1, Sum.elim_inl]
    exact guardK_eq hN s2 _
  | true =>
    rw [hc, cond_true] at s2
    rw [Bool.and_eq_true, decide_eq_true_eq] at hc
    obtain ⟨i, e, a, p1, p2, p3⟩ := pass_idx h hc.1
    obtain ⟨q1, q2, q3, q4⟩ := seat_ok h.que f4 f5
    have hi : i < (moveR s.Line (stepD s.Motor s.Drive).Speed).Load.length := by
      show i < (ldsR s.Line _).length
      rw [ldsR_len]
      exact a
    have le := load_eq (N := N) (move_ok h.line sp.1 (by omega)) f5 hi q3 q4 p1 p2 p3
    have e' : passR s.Line (stepD s.Motor s.Drive).Speed s.Line.Load.length = (i : Int) := e
    simp only [cond_true, seat_ex hN h.que f4 f5, Option.bind_some, bne_self_eq_false, cond_false, e', le, wrap64 (z := s.Up + (seatS s.Queue s.Lift.Seats).2) (by omega) (by omega), Sum.elim_inl, e, Int.toNat_natCast]
    rw [e, Int.toNat_natCast] at s2
    have e2 : mkS s (stepD s.Motor s.Drive) (setR (moveR s.Line (stepD s.Motor s.Drive).Speed) i (seatS s.Queue s.Lift.Seats).2) (seatS s.Queue s.Lift.Seats).1 (s.Up + (seatS s.Queue s.Lift.Seats).2) (s.Off + leftR s.Line (stepD s.Motor s.Drive).Speed s.Line.Load.length) = boardS (second1 s) i := by
      unfold mkS
      rw [wrap64 (by omega) (by omega)]
      rfl
    rw [e2]
    exact guardK_eq hN s2 _
theorem ticks_eq {s : LiftState} (h : Ok s) {n : Int} (h1 : 1 ≤ n) (h2 : n ≤ 600) (ht : s.Time + n ≤ 20000000) : whileF N (tickB N n) ((0 : Int), s) = some (Sum.inl (tickN s n.toNat)) := by
  refine throughG (fun k => ((k : Int), tickN s k)) (Sum.inl (tickN s n.toNat)) n.toNat (show n.toNat < N by omega) (fun k hk => ?_) ?_
  · have a := tickN_ok h k (by omega)
    have t := tickN_time s k
    exact tickB_eq hN (show 1125899906842624 + 16 * (k : Int) ≤ 1125899906852224 by omega) a (by omega) (by omega) h2
  · unfold tickB
    have : decide (((n.toNat : Nat) : Int) < n) = false := by rw [decide_eq_false_iff_not]; omega
    simp only [this, cond_false]
theorem do_bad {s : LiftState} (h : ¬ Ok s) (e : LiftEvent) : lift_Do N s e = some (z_LiftState, 1) := by
  rw [do_form]
  unfold doF
  obtain ⟨b, eq, hb⟩ := right_eq hN s
  have : b = false := by
    cases b with
    | false => rfl
    | true => exact absurd (hb.1 rfl) h
  rw [eq, this]
  rfl
theorem do_eq {s : LiftState} (h : Ok s) (e : LiftEvent) : lift_Do N s e = some (doS s e) := by
  obtain ⟨f1, f2, f3, f4, f5, f6⟩ := id h.fit
  have cl := h.chn.len
  have ln := h.line.len
  have ql := h.que.len
  have bl := ((rightB_iff _).1 h.brk).1
  have ck := ck_ok h.chk
  have cki := ck.items
  have cks := ck.signs
  have t := h.time
  have o := h.off
  rw [do_form]
  unfold doF
  rw [right_ok hN h, Option.bind_some, Bool.not_true, cond_false, liftClone_eq s (by omega) (by omega) (by omega) (by omega) (by omega) (by omega), Option.bind_some]
  have fin : ∀ r : LiftState × Int, e.Kind ≠ 1 → actS s e = r → finE N e (r.2, r.1) = some (doS s e) := fun r hk hr => by
    have := finE_eq hN (b := 1125899906842624) (s := r.1) (z := r.2) (fun hz => by rw [← hr] at hz ⊢; exact did_ok h (act_did hz)) hk
    rw [this]
    unfold doS
    rw [hr]
    have k1 : (e.Kind == 1) = false := by rw [beq_eq_false_iff_ne]; exact hk
    rw [k1]
    rfl
  have finf : ∀ r : LiftState, e.Kind ≠ 1 → actS s e = (r, 0) → finF N e r = some (doS s e) := fun r hk hr => by
    have := fin (r, 0) hk hr
    exact this
  cases k1 : e.Kind == 1 with
  | true =>
    rw [cond_true, cond_or, cond_or, Option.bind_some]
    rw [beq_iff_eq] at k1
    have ea : actS s e = tickS s e.N := by unfold actS; rw [k1]; rfl
    unfold doS
    rw [ea, k1]
    unfold tickS
    have e1 : (decide (e.N < 1) || (decide (e.N > 600) || decide (IntKind.i64.wrap (s.Time + e.N) > 20000000))) = (decide (e.N < 1) || (decide (e.N > 600) || decide (s.Time + e.N > 20000000))) := by
      by_cases a1 : e.N < 1
      · rw [decide_eq_true a1, Bool.true_or, Bool.true_or]
      · by_cases a2 : e.N > 600
        · rw [decide_eq_true a2, Bool.true_or, Bool.true_or]
        · rw [wrap64 (by omega) (by omega)]
    rw [e1]
    cases hc : (decide (e.N < 1) || (decide (e.N > 600) || decide (s.Time + e.N > 20000000))) with
    | true => rfl
    | false =>
      simp only [Bool.or_eq_false_iff, decide_eq_false_iff_not] at hc
      simp only [cond_false, ticks_eq hN h (show 1 ≤ e.N by omega) (by omega) (by omega), Option.bind_some, Sum.elim_inl, cond_or, finF_one k1]
      cases (decide ((tickN s e.N.toNat).Up > 1125899906842624) || decide ((tickN s e.N.toNat).Off > 1125899906842624)) <;> rfl
  | false =>
  have hk := k1
  rw [beq_eq_false_iff_ne] at hk
  rw [cond_false]
  obtain ⟨K, n, m, by'⟩ := e
  simp only at hk k1 fin finf ⊢
  by_cases k2 : K = 2
  · subst k2
    simp only [Int.reduceBEq, cond_true, cond_false, Option.bind_some, may_eq hN h]
    cases h1 : (s.Mode != 0) with
    | true => exact fin (s, 10) hk (by simp [actS, h1])
    | false =>
      cases h2 : (mayS s != 0) with
      | true => exact fin (s, mayS s) hk (by simp [actS, h1, h2])
      | false => exact finf _ hk (by simp [actS, h1, h2])
  by_cases k3 : K = 3
  · subst k3
    simp only [Int.reduceBEq, cond_true, cond_false, Option.bind_some, el_eq]
    cases h1 : (s.Mode != 1) with
    | true => exact fin (s, 10) hk (by simp [actS, h1])
    | false => exact finf _ hk (by simp [actS, h1])
  by_cases k17 : K = 17
  · subst k17
    simp only [Int.reduceBEq, cond_true, cond_false, Option.bind_some, el_eq, cond_or, cond_and, halt_eq]
    have ea : actS s ⟨17, n, m, by'⟩ = rescueS s := rfl
    cases h1 : (s.Mode == 0 || s.Mode == 2) with
    | true => exact fin (s, 10) hk (by rw [ea]; unfold rescueS; rw [h1]; rfl)
    | false =>
      cases h2 : (s.Drive.Speed != 0) with
      | true => exact fin (s, 13) hk (by rw [ea]; unfold rescueS; rw [h1, h2]; rfl)
      | false =>
        cases h3 : (s.Drive.State == 1 && decide (s.Drive.Target > 1000)) with
        | true => exact fin (_, 0) hk (by rw [ea]; unfold rescueS; rw [h1, h2, h3]; rfl)
        | false => exact fin (_, 0) hk (by rw [ea]; unfold rescueS; rw [h1, h2, h3]; rfl)
  by_cases k18 : K = 18
  · subst k18
    simp only [Int.reduceBEq, cond_true, cond_false, Option.bind_some, el_eq, take_eq (N := N) h.line f5]
    have ea : actS s ⟨18, n, m, by'⟩ = bringS s m n := rfl
    cases h1 : (s.Mode != 2) with
    | true => exact fin (s, 10) hk (by rw [ea]; unfold bringS; rw [h1]; rfl)
    | false =>
      cases h2 : (s.Drive.Speed != 0) with
      | true => exact fin (s, 13) hk (by rw [ea]; unfold bringS; rw [h1, h2]; rfl)
      | false =>
        cases h3 : ((takeR s.Line m n).2 != 0) with
        | true => exact fin (s, (takeR s.Line m n).2) hk (by rw [ea]; unfold bringS; rw [h1, h2, h3]; rfl)
        | false =>
          have hnb : 0 ≤ n ∧ n ≤ 16 := by
            unfold takeR at h3
            cases c1 : (!(decide (m ≥ 0) && decide (m < (s.Line.Load.length : Int)))) with
            | true => rw [c1] at h3; cases h3
            | false =>
              cases c2 : (decide (n < 0) || decide (n > s.Line.Load.getD m.toNat 0)) with
              | true => rw [c1, c2] at h3; cases h3
              | false =>
                simp only [Bool.not_eq_false', Bool.and_eq_true, Bool.or_eq_false_iff, decide_eq_true_eq, decide_eq_false_iff_not] at c1 c2
                have := h.line.load m.toNat (by omega)
                omega
          rw [wrap64 (z := s.Off + n) (by omega) (by omega)]
          cases h4 : decide (s.Off + n > 1125899906842624) with
          | true => exact fin (s, 12) hk (by rw [ea]; unfold bringS; rw [h1, h2, h3, h4]; rfl)
          | false => exact fin (_, 0) hk (by rw [ea]; unfold bringS; rw [h1, h2, h3, h4]; rfl)
  by_cases k19 : K = 19
  · subst k19
    simp only [Int.reduceBEq, cond_true, cond_false, Option.bind_some, el_eq, people_eq hN h.line f5]
    cases h1 : (s.Mode != 2) with
    | true => exact fin (s, 10) hk (by simp [actS, h1])
    | false =>
      cases h2 : decide (peopleS s.Line > 0) with
      | true => exact fin (s, 13) hk (by simp only [actS, Int.reduceBEq, cond_true, cond_false, h1, h2])
      | false => exact finf _ hk (by simp only [actS, Int.reduceBEq, cond_true, cond_false, h1, h2])
  have b2 : (K == 2) = false := by rw [beq_eq_false_iff_ne]; exact k2
  have b3 : (K == 3) = false := by rw [beq_eq_false_iff_ne]; exact k3
  have b17 : (K == 17) = false := by rw [beq_eq_false_iff_ne]; exact k17
  have b18 : (K == 18) = false := by rw [beq_eq_false_iff_ne]; exact k18
  have b19 : (K == 19) = false := by rw [beq_eq_false_iff_ne]; exact k19
  simp only [b2, b3, b17, b18, b19, cond_false, Option.bind_some]
  by_cases k4 : K = 4
  · subst k4
    simp only [Int.reduceBEq, cond_true, cond_false, Option.bind_some, may_eq hN h, cond_and, start_eq]
    cases h1 : (s.Mode == 0) with
    | true => exact fin (s, 10) hk (by simp only [actS, Int.reduceBEq, cond_true, cond_false, h1])
    | false =>
      cases h2 : (s.Mode == 2 && decide (n > 1000)) with
      | true => exact fin (s, 2) hk (by simp only [actS, Int.reduceBEq, cond_true, cond_false, h1, h2])
      | false =>
        cases h3 : (mayS s != 0) with
        | true => exact fin (s, mayS s) hk (by simp only [actS, Int.reduceBEq, cond_true, cond_false, h1, h2, h3])
        | false => exact fin (onD s (startD s.Motor s.Drive n)) hk (by simp only [actS, Int.reduceBEq, cond_true, cond_false, h1, h2, h3])
  by_cases k5 : K = 5
  · subst k5
    simp only [Int.reduceBEq, cond_true, cond_false, Option.bind_some, halt_eq]
    exact fin (_, 0) hk rfl
  by_cases k6 : K = 6
  · subst k6
    simp only [Int.reduceBEq, cond_true, cond_false, Option.bind_some]
    exact fin (_, 0) hk rfl
  by_cases k7 : K = 7
  · subst k7
    simp only [Int.reduceBEq, cond_true, cond_false, Option.bind_some, reset_eq]
    exact fin (onD s (resetD s.Drive)) hk rfl
  have b4 : (K == 4) = false := by rw [beq_eq_false_iff_ne]; exact k4
  have b5 : (K == 5) = false := by rw [beq_eq_false_iff_ne]; exact k5
  have b6 : (K == 6) = false := by rw [beq_eq_false_iff_ne]; exact k6
  have b7 : (K == 7) = false := by rw [beq_eq_false_iff_ne]; exact k7
  simp only [b4, b5, b6, b7, cond_false, Option.bind_some]
  have hcl : s.Chain.Contacts.length ≤ 1000 := by omega
  by_cases k8 : K = 8
  · subst k8
    simp only [Int.reduceBEq, cond_true, cond_false, Option.bind_some, Ch.break_eq hN hcl]
    exact fin (onC s (Ch.breakS s.Chain n)) hk rfl
  by_cases k9 : K = 9
  · subst k9
    simp only [Int.reduceBEq, cond_true, cond_false, Option.bind_some, el_eq, Ch.make_eq hN hcl]
    exact fin (onC s (Ch.makeS s.Chain n)) hk rfl
  by_cases k10 : K = 10
  · subst k10
    simp only [Int.reduceBEq, cond_true, cond_false, Option.bind_some, el_eq, Ch.clear_eq hN hcl]
    exact fin (onC s (Ch.clearS s.Chain n by')) hk rfl
  by_cases k11 : K = 11
  · subst k11
    simp only [Int.reduceBEq, cond_true, cond_false, Option.bind_some, el_eq, Ch.take_eq hN hcl]
    exact fin (onC s (Ch.takeS s.Chain by')) hk rfl
  by_cases k12 : K = 12
  · subst k12
    simp only [Int.reduceBEq, cond_true, cond_false, Option.bind_some, el_eq, cond_or]
    cases h1 : (decide (m < 1) || decide (m > 3600)) with
    | true => exact fin (s, 2) hk (by simp only [actS, Int.reduceBEq, cond_true, cond_false, h1])
    | false =>
      have h1' := h1
      simp only [Bool.or_eq_false_iff, decide_eq_false_iff_not] at h1'
      simp only [cond_false, wrap64 (z := s.Time + m) (by omega) (by omega), Ch.bypass_eq hN hcl, Option.bind_some]
      exact fin (onC s (Ch.bypassS s.Chain n by' (s.Time + m))) hk (by simp only [actS, Int.reduceBEq, cond_true, cond_false, h1])
  have b8 : (K == 8) = false := by rw [beq_eq_false_iff_ne]; exact k8
  have b9 : (K == 9) = false := by rw [beq_eq_false_iff_ne]; exact k9
  have b10 : (K == 10) = false := by rw [beq_eq_false_iff_ne]; exact k10
  have b11 : (K == 11) = false := by rw [beq_eq_false_iff_ne]; exact k11
  have b12 : (K == 12) = false := by rw [beq_eq_false_iff_ne]; exact k12
  simp only [b8, b9, b10, b11, b12, cond_false, Option.bind_some]
  by_cases k13 : K = 13
  · subst k13
    simp only [Int.reduceBEq, cond_true, cond_false, Option.bind_some, btest_eq hN s.Brakes (show s.Brakes.length ≤ 900 by omega)]
    cases h1 : (s.Drive.State != 0) with
    | true => exact fin (s, 10) hk (by simp only [actS, Int.reduceBEq, cond_true, cond_false, h1])
    | false => exact fin (setBrakes s (testB s.Brakes n m s.Time).1, (testB s.Brakes n m s.Time).2) hk (by simp only [actS, Int.reduceBEq, cond_true, cond_false, h1])
  by_cases k14 : K = 14
  · subst k14
    simp only [Int.reduceBEq, cond_true, cond_false, Option.bind_some, el_eq, update_eq]
    exact fin (setWind s (updA s.Wind n s.Time).1, (updA s.Wind n s.Time).2) hk rfl
  by_cases k15 : K = 15
  · subst k15
    simp only [Int.reduceBEq, cond_true, cond_false, Option.bind_some, el_eq, sign_eq hN ck]
    exact fin (setChecks s (signC s.Checks n by' s.Time).1, (signC s.Checks n by' s.Time).2) hk rfl
  by_cases k16 : K = 16
  · subst k16
    simp only [Int.reduceBEq, cond_true, cond_false, Option.bind_some, el_eq, join_ex (N := N) h.que, single_ex (N := N) h.que]
    cases h1 : (s.Mode != 1) with
    | true => exact fin (s, 10) hk (by simp only [actS, Int.reduceBEq, cond_true, cond_false, h1])
    | false =>
      cases h2 : (m == 0) with
      | true => exact fin (setQueue s (joinS s.Queue n).1, (joinS s.Queue n).2) hk (by simp only [actS, Int.reduceBEq, cond_true, cond_false, h1, h2])
      | false =>
        cases h3 : (m == 1) with
        | true => exact fin (setQueue s (singleS s.Queue n).1, (singleS s.Queue n).2) hk (by simp only [actS, Int.reduceBEq, cond_true, cond_false, h1, h2, h3])
        | false => exact fin (s, 2) hk (by simp only [actS, Int.reduceBEq, cond_true, cond_false, h1, h2, h3])
  have b13 : (K == 13) = false := by rw [beq_eq_false_iff_ne]; exact k13
  have b14 : (K == 14) = false := by rw [beq_eq_false_iff_ne]; exact k14
  have b15 : (K == 15) = false := by rw [beq_eq_false_iff_ne]; exact k15
  have b16 : (K == 16) = false := by rw [beq_eq_false_iff_ne]; exact k16
  simp only [b13, b14, b15, b16, cond_false, Option.bind_some]
  unfold doS actS
  simp only [k1, b2, b3, b17, b18, b19, b4, b5, b6, b7, b8, b9, b10, b11, b12, b13, b14, b15, b16, cond_false]
  rfl
end
end Go.Proofs.YthjmbcnohgaihaaGreat

/- The lift: what holds after any events (invariants); New. No condition. -/
namespace Go.Proofs.YthjmbcnohgaihaaGreat
open Go.Cm Go.Proofs
/-! the target of a drive in rescue mode -/
def Tg (s : LiftState) : Prop := s.Drive.State = 1 → s.Mode = 2 → s.Drive.Target ≤ 1000
structure Gd (s : LiftState) : Prop where
  run : s.Drive.State = 1 → mayS s = 0 ∧ s.Mode ≠ 0
  last : s.Mode = 3 → peopleS s.Line ≠ 0
theorem haltD_state (d : Drive) : (haltD d).State ≠ 1 := by
  unfold haltD
  cases h : d.State == 1 with
  | true => simp
  | false => rw [beq_eq_false_iff_ne] at h; exact h
theorem guard1_last (s : LiftState) : (guard1 s).Mode = 3 → peopleS (guard1 s).Line ≠ 0 := by
  unfold guard1
  simp only
  cases h : (s.Mode == 3 && peopleS s.Line == 0) with
  | true => intro h0; cases h0
  | false =>
    intro h0 h1
    simp only [cond_false] at h0
    rw [h0, h1] at h
    cases h
theorem guard2_gd {r : LiftState} (hl : r.Mode = 3 → peopleS r.Line ≠ 0) : Gd (guard2 r) := by
  unfold guard2
  cases h1 : (r.Drive.State != 1) with
  | true => rw [bne_iff_ne] at h1; exact ⟨fun h => absurd h h1, hl⟩
  | false =>
    simp only [cond_false]
    cases h2 : (r.Mode == 0) with
    | true => exact ⟨fun h => absurd h (haltD_state _), hl⟩
    | false =>
      rw [beq_eq_false_iff_ne] at h2
      simp only [cond_false]
      cases h3 : (mayS r == 0) with
      | true => rw [beq_iff_eq] at h3; exact ⟨fun _ => ⟨h3, h2⟩, hl⟩
      | false =>
        simp only [cond_false]
        cases (mayS r == 13 || mayS r == 14) with
        | true => exact ⟨fun h => absurd h (by show (3 : Int) ≠ 1; decide), hl⟩
        | false => exact ⟨fun h => absurd h (haltD_state _), hl⟩
theorem guard_gd (s : LiftState) : Gd (guardS s) := guard2_gd (guard1_last s)
/-- what the guard leaves as it is -/
theorem guard_keep (s : LiftState) : (guardS s).Lift = s.Lift ∧ (guardS s).Motor = s.Motor ∧ (guardS s).Line = s.Line ∧ (guardS s).Queue = s.Queue ∧ (guardS s).Up = s.Up ∧ (guardS s).Off = s.Off ∧ (guardS s).Drive.Speed = s.Drive.Speed ∧ ((guardS s).Mode = s.Mode ∨ (guardS s).Mode = 0) := by
  have hm : (guard1 s).Mode = s.Mode ∨ (guard1 s).Mode = 0 := by
    unfold guard1
    simp only
    cases (s.Mode == 3 && peopleS s.Line == 0) with
    | true => exact .inr rfl
    | false => exact .inl rfl
  have hh : (haltD (guard1 s).Drive).Speed = s.Drive.Speed := by
    show (haltD s.Drive).Speed = _
    unfold haltD
    cases s.Drive.State == 1 <;> rfl
  unfold guardS guard2
  cases ((guard1 s).Drive.State != 1) with
  | true => exact ⟨rfl, rfl, rfl, rfl, rfl, rfl, rfl, hm⟩
  | false =>
    cases ((guard1 s).Mode == 0) with
    | true => exact ⟨rfl, rfl, rfl, rfl, rfl, rfl, hh, hm⟩
    | false =>
      cases (mayS (guard1 s) == 0) with
      | true => exact ⟨rfl, rfl, rfl, rfl, rfl, rfl, rfl, hm⟩
      | false =>
        cases (mayS (guard1 s) == 13 || mayS (guard1 s) == 14) with
        | true => exact ⟨rfl, rfl, rfl, rfl, rfl, rfl, rfl, hm⟩
        | false => exact ⟨rfl, rfl, rfl, rfl, rfl, rfl, hh, hm⟩
theorem guard_drive (s : LiftState) : (guardS s).Drive = s.Drive ∨ (guardS s).Drive.State ≠ 1 := by
  unfold guardS guard2
  cases ((guard1 s).Drive.State != 1) with
  | true => exact .inl rfl
  | false =>
    cases ((guard1 s).Mode == 0) with
    | true => exact .inr (haltD_state _)
    | false =>
      cases (mayS (guard1 s) == 0) with
      | true => exact .inl rfl
      | false =>
        cases (mayS (guard1 s) == 13 || mayS (guard1 s) == 14) with
        | true => exact .inr (by show (3 : Int) ≠ 1; decide)
        | false => exact .inr (haltD_state _)
theorem guard_tg {s : LiftState} (h : Tg s) : Tg (guardS s) := by
  intro h1 h2
  rcases guard_drive s with hd | hd
  · rw [hd] at h1 ⊢
    rcases (guard_keep s).2.2.2.2.2.2.2 with hm | hm
    · exact h h1 (by omega)
    · omega
  · exact absurd h1 hd
theorem step_state (m : Motor) (d : Drive) : ((stepD m d).State = d.State ∨ (stepD m d).State = 0) ∧ (stepD m d).Target = d.Target := by
  unfold stepD
  cases (d.State == 2 && nextD m d == 0) with
  | true => exact ⟨.inr rfl, rfl⟩
  | false => exact ⟨.inl rfl, rfl⟩
theorem second2_keep (s : LiftState) : (second2 s).Drive = stepD s.Motor s.Drive ∧ (second2 s).Mode = s.Mode ∧ (second2 s).Motor = s.Motor ∧ (second2 s).Lift = s.Lift := by
  unfold second2
  cases (decide (passS s ≥ 0) && s.Mode == 1) <;> exact ⟨rfl, rfl, rfl, rfl⟩
theorem second2_tg {s : LiftState} (h : Tg s) : Tg (second2 s) := by
  obtain ⟨a, b, _⟩ := second2_keep s
  unfold Tg
  rw [a, b, (step_state _ _).2]
  intro h1 h2
  refine h ?_ h2
  rcases (step_state s.Motor s.Drive).1 with e | e <;> omega
theorem tickN_tg {s : LiftState} (h : Tg s) (k : Nat) : Tg (tickN s k) := by
  induction k with
  | zero => exact h
  | succ k ih => exact guard_tg (second2_tg ih)
theorem did_tg {s s' : LiftState} {e : LiftEvent} (h : Tg s) (d : Did s e s') : Tg s' := by
  cases d with
  | tick hk hn ht hu => exact tickN_tg h _
  | «open» hk hm hy => intro _ h2; exact absurd h2 (by show (1 : Int) ≠ 2; decide)
  | close hk hm => intro _ h2; exact absurd h2 (by show (3 : Int) ≠ 2; decide)
  | rescue hk hm hs ht => intro h1 _; exact ht h1
  | rescueH hk hm hs => intro h1 _; exact absurd h1 (haltD_state _)
  | bring hk hm i hi hn ho => exact h
  | rescued hk hm => intro _ h2; exact absurd h2 (by show (0 : Int) ≠ 2; decide)
  | start hk hm hn hz =>
    intro _ h2
    have ht : (startD s.Motor s.Drive e.N).1.Target = e.N := by
      unfold startD at hz ⊢
      cases h1 : (s.Drive.State == 2 || s.Drive.State == 3) with
      | true => rw [h1] at hz; cases hz
      | false =>
        cases h2 : (decide (1 ≤ e.N) && decide (e.N ≤ s.Motor.Max)) with
        | false => rw [h1, h2] at hz; cases hz
        | true => rfl
    show (startD s.Motor s.Drive e.N).1.Target ≤ 1000
    rw [ht]
    exact hn h2
  | stop hk => intro h1 _; exact absurd h1 (haltD_state _)
  | emerge hk => intro h1 _; exact absurd h1 (by show (3 : Int) ≠ 1; decide)
  | reset hk hz =>
    intro h1 _
    have : (resetD s.Drive).1.State = 0 := by
      unfold resetD
      cases (s.Drive.State != 3 || s.Drive.Speed != 0) <;> rfl
    have h1' : (resetD s.Drive).1.State = 1 := h1
    omega
  | chain hk c hc => exact h
  | test hk hz => exact h
  | gust hk hz => exact h
  | sign hk hz => exact h
  | join hk hm hz => exact h
  | single hk hm hz => exact h
structure Inv (s : LiftState) : Prop where
  ok : Ok s
  tg : Tg s
  gd : Gd s
theorem do_split {s : LiftState} {e : LiftEvent} (hz : (doS s e).2 = 0) : ∃ s', Did s e s' ∧ ((e.Kind = 1 ∧ (doS s e).1 = s') ∨ (e.Kind ≠ 1 ∧ (doS s e).1 = guardS s')) := by
  unfold doS at *
  cases h1 : ((actS s e).2 != 0) with
  | true => rw [h1] at hz; rw [bne_iff_ne] at h1; exact absurd hz h1
  | false =>
    rw [bne_eq_false_iff_eq] at h1
    refine ⟨_, act_did h1, ?_⟩
    rw [cond_false]
    cases hk : (e.Kind == 1) with
    | true => rw [beq_iff_eq] at hk; exact .inl ⟨hk, rfl⟩
    | false => rw [beq_eq_false_iff_ne] at hk; exact .inr ⟨hk, rfl⟩
theorem inv_do {s : LiftState} {e : LiftEvent} (h : Inv s) (hz : (doS s e).2 = 0) : Inv (doS s e).1 := by
  have ok := do_ok h.ok hz
  obtain ⟨s', d, ⟨hk, e1⟩ | ⟨hk, e1⟩⟩ := do_split hz
  · rw [e1] at ok ⊢
    have tg := did_tg h.tg d
    refine ⟨ok, tg, ?_⟩
    cases d with
    | tick _ hn ht hu =>
      obtain ⟨k, hk'⟩ : ∃ k, e.N.toNat = k + 1 := ⟨e.N.toNat - 1, by omega⟩
      rw [hk']
      exact guard_gd _
    | _ => omega
  · rw [e1] at ok ⊢
    exact ⟨ok, guard_tg (did_tg h.tg d), guard_gd _⟩
/-! New -/
def newL (l : Lift) (m : Motor) (br : List Brake) (c : Chain) (w : Alarm) (k : Checklist) : LiftState := ⟨l, m, z_Drive, br, c, w, (newR l).1, z_Queue, k, 0, 0, 0, 0⟩
theorem sum_zero (n : Nat) : (List.replicate n (0 : Int)).sum = 0 := by
  induction n with
  | zero => rfl
  | succ n ih => rw [List.replicate_succ, List.sum_cons, ih]; rfl
theorem new_ok {l : Lift} {m : Motor} {br : List Brake} {c : Chain} {w : Alarm} {k : Checklist} (h1 : (newR l).2 = 0) (h2 : fitP l m w 0) (h3 : rightB br = 0) (h4 : Ch.rightS c = 0) (h5 : rightC k = 0) : Inv (newL l m br c w k) := by
  have n := (new_iff l).1 h1
  have e := new_some h1
  have a := n.len
  have b := n.spc
  have d := n.mul
  have f := n.cnt
  have f1 : 1 ≤ cntN l := by
    by_cases hc : cntN l = 0
    · rw [hc] at d; omega
    · omega
  have f2 := h2.1.max
  have e2 : ((cntN l).toNat : Int) = cntN l := by omega
  have mx := h2.1
  have rl : RopeOk (newR l).1 l.Seats := by
    rw [e]
    refine ⟨by simp only; omega, by simp only [List.length_replicate]; omega, ?_, by simp only; omega, by simp only; omega, fun i hi => ?_⟩
    · simp only [List.length_replicate, e2]
      rw [Int.mul_left_comm, d]
      omega
    · have : (List.replicate (cntN l).toNat (0 : Int)).getD i 0 = 0 := by
        simp only [List.length_replicate] at hi
        simp [List.getD, List.getElem?_replicate, hi]
      simp only [this]
      obtain ⟨_, _, _, g4, _⟩ := id h2
      exact ⟨by omega, by omega, fun h => absurd rfl h⟩
  refine ⟨⟨h1, ?_, ?_, ?_, by simp [newL], h2, ⟨by simp [newL, z_Drive], ?_, by simp [newL, z_Drive], fun _ => rfl, fun h => (by cases h), fun _ => rfl⟩, rl, qok_empty, h3, Ch.right_zero.1 h4, h5, by simp [newL], by simp [newL], by simp [newL], ?_⟩, fun h => (by cases h), ⟨fun h => (by cases h), fun h => (by cases h)⟩⟩
  · show (newR l).1.Loop = _; rw [e]; rfl
  · show (newR l).1.Spacing = _; rw [e]; rfl
  · show (((newR l).1.Load.length : Nat) : Int) = cntN l; rw [e]; simp only [List.length_replicate]; omega
  · show 0 ≤ (0 : Int) ∧ (0 : Int) ≤ m.Max
    omega
  · show (0 : Int) - 0 = peopleS (newR l).1
    rw [e]
    unfold peopleS
    simp only [sum_zero]
    rfl
section
variable {N : Nat} (hN : 1000 < N)
include hN
theorem new_eq (x : Make) : ∃ r, l20_made N x = some r ∧ (r.2 = 0 → r.1 = newL x.Lift x.Motor x.Brakes x.Chain x.Wind x.Checks ∧ Inv r.1) := by
  unfold l20_made lift_New
  simp only [ropeNew_eq, Option.bind_some, bright_eq hN, Ch.right_eq hN, iright_eq hN]
  cases h1 : ((newR x.Lift).2 != 0) with
  | true =>
    rw [bne_iff_ne] at h1
    exact ⟨_, rfl, fun h => absurd h h1⟩
  | false =>
    rw [bne_eq_false_iff_eq] at h1
    obtain ⟨b, e, hb⟩ := fits_eq (N := N) ((new_iff _).1 h1) x.Motor x.Wind 0
    rw [cond_false, e, Option.bind_some]
    cases b with
    | false => exact ⟨_, rfl, fun h => by cases h⟩
    | true =>
      have h2 := hb.1 rfl
      simp only [Bool.not_true, cond_false]
      cases h3 : (rightB x.Brakes != 0) with
      | true => rw [bne_iff_ne] at h3; exact ⟨_, rfl, fun h => absurd h h3⟩
      | false =>
        rw [bne_eq_false_iff_eq] at h3
        cases h4 : (Ch.rightS x.Chain != 0) with
        | true => rw [bne_iff_ne] at h4; exact ⟨_, rfl, fun h => absurd h h4⟩
        | false =>
          rw [bne_eq_false_iff_eq] at h4
          cases h5 : (rightC x.Checks != 0) with
          | true => rw [bne_iff_ne] at h5; exact ⟨_, rfl, fun h => absurd h h5⟩
          | false =>
            rw [bne_eq_false_iff_eq] at h5
            have inv := new_ok h1 h2 h3 h4 h5
            have cl := inv.ok.chn.len
            have ln := inv.ok.line.len
            have bl := ((rightB_iff _).1 h3).1
            have ck := ck_ok h5
            have cki := ck.items
            have cks := ck.signs
            have ec : lift_clone N (newL x.Lift x.Motor x.Brakes x.Chain x.Wind x.Checks) = some (newL x.Lift x.Motor x.Brakes x.Chain x.Wind x.Checks) := liftClone_eq _ (show x.Brakes.length ≤ 900 by omega) (show x.Chain.Contacts.length ≤ 900 by exact Nat.le_trans cl (by decide)) (Nat.le_trans ln.2 (by decide)) (Nat.zero_le _) (show x.Checks.Items.length ≤ 900 by omega) (show x.Checks.Signs.length ≤ 900 by omega)
            simp only [cond_false]
            refine ⟨(newL x.Lift x.Motor x.Brakes x.Chain x.Wind x.Checks, 0), ?_, fun _ => ⟨rfl, inv⟩⟩
            show ((lift_clone N (newL x.Lift x.Motor x.Brakes x.Chain x.Wind x.Checks)).bind fun r11 => some (r11, (0 : Int))).bind _ = _
            rw [ec]
            rfl
/-! after some events -/
omit hN in
def aft (s : LiftState) (e : LiftEvent) : LiftState := bif (doS s e).2 == 0 then (doS s e).1 else s
omit hN in
theorem aft_inv {s : LiftState} (h : Inv s) (e : LiftEvent) : Inv (aft s e) := by
  unfold aft
  cases hz : (doS s e).2 == 0 with
  | true => rw [beq_iff_eq] at hz; exact inv_do h hz
  | false => exact h
omit hN in
theorem fold_inv {s : LiftState} (h : Inv s) (l : List LiftEvent) : Inv (l.foldl aft s) := by
  induction l generalizing s with
  | nil => exact h
  | cons e l ih => exact ih (aft_inv h e)
omit hN in
theorem small_eq (x : Make) : ∃ b, l20_small N x = some b := ⟨_, by unfold l20_small; simp only [cond_and, Option.bind_some]; rfl⟩
end
end Go.Proofs.YthjmbcnohgaihaaGreat

