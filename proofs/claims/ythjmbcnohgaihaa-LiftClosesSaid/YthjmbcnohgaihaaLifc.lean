/- The lift: what holds after any events (invariants); New. No condition. -/
import Derived.Test.YthjmbcnohgaihaaLifb
namespace Go.Proofs.Ythjmbcnohgaihaa
open Go.Cm Go.Proofs
/-! the target of a drive in rescue mode -/
def Tg (s : LiftState) : Prop := s.Drive.State = 1 → s.Mode = 2 → s.Drive.Target ≤ 1000
structure Gd (s : LiftState) : Prop where
  run : s.Drive.State = 1 → mayS s = 0 ∧ s.Mode ≠ 0
  last : s.Mode = 3 → peopleS s.Line ≠ 0
theorem haltD_state (d : Drive) : (haltD d).State ≠ 1 := by
  unfold haltD
  cases h : d.State == 1 with
  | true => simp
  | false => rw [beq_eq_false_iff_ne] at h; exact h
theorem guard1_last (s : LiftState) : (guard1 s).Mode = 3 → peopleS (guard1 s).Line ≠ 0 := by
  unfold guard1
  simp only
  cases h : (s.Mode == 3 && peopleS s.Line == 0) with
  | true => intro h0; cases h0
  | false =>
    intro h0 h1
    simp only [cond_false] at h0
    rw [h0, h1] at h
    cases h
theorem guard2_gd {r : LiftState} (hl : r.Mode = 3 → peopleS r.Line ≠ 0) : Gd (guard2 r) := by
  unfold guard2
  cases h1 : (r.Drive.State != 1) with
  | true => rw [bne_iff_ne] at h1; exact ⟨fun h => absurd h h1, hl⟩
  | false =>
    simp only [cond_false]
    cases h2 : (r.Mode == 0) with
    | true => exact ⟨fun h => absurd h (haltD_state _), hl⟩
    | false =>
      rw [beq_eq_false_iff_ne] at h2
      simp only [cond_false]
      cases h3 : (mayS r == 0) with
      | true => rw [beq_iff_eq] at h3; exact ⟨fun _ => ⟨h3, h2⟩, hl⟩
      | false =>
        simp only [cond_false]
        cases (mayS r == 13 || mayS r == 14) with
        | true => exact ⟨fun h => absurd h (by show (3 : Int) ≠ 1; decide), hl⟩
        | false => exact ⟨fun h => absurd h (haltD_state _), hl⟩
theorem guard_gd (s : LiftState) : Gd (guardS s) := guard2_gd (guard1_last s)
/-- what the guard leaves as it is -/
theorem guard_keep (s : LiftState) : (guardS s).Lift = s.Lift ∧ (guardS s).Motor = s.Motor ∧ (guardS s).Line = s.Line ∧ (guardS s).Queue = s.Queue ∧ (guardS s).Up = s.Up ∧ (guardS s).Off = s.Off ∧ (guardS s).Drive.Speed = s.Drive.Speed ∧ ((guardS s).Mode = s.Mode ∨ (guardS s).Mode = 0) := by
  have hm : (guard1 s).Mode = s.Mode ∨ (guard1 s).Mode = 0 := by
    unfold guard1
    simp only
    cases (s.Mode == 3 && peopleS s.Line == 0) with
    | true => exact .inr rfl
    | false => exact .inl rfl
  have hh : (haltD (guard1 s).Drive).Speed = s.Drive.Speed := by
    show (haltD s.Drive).Speed = _
    unfold haltD
    cases s.Drive.State == 1 <;> rfl
  unfold guardS guard2
  cases ((guard1 s).Drive.State != 1) with
  | true => exact ⟨rfl, rfl, rfl, rfl, rfl, rfl, rfl, hm⟩
  | false =>
    cases ((guard1 s).Mode == 0) with
    | true => exact ⟨rfl, rfl, rfl, rfl, rfl, rfl, hh, hm⟩
    | false =>
      cases (mayS (guard1 s) == 0) with
      | true => exact ⟨rfl, rfl, rfl, rfl, rfl, rfl, rfl, hm⟩
      | false =>
        cases (mayS (guard1 s) == 13 || mayS (guard1 s) == 14) with
        | true => exact ⟨rfl, rfl, rfl, rfl, rfl, rfl, rfl, hm⟩
        | false => exact ⟨rfl, rfl, rfl, rfl, rfl, rfl, hh, hm⟩
theorem guard_drive (s : LiftState) : (guardS s).Drive = s.Drive ∨ (guardS s).Drive.State ≠ 1 := by
  unfold guardS guard2
  cases ((guard1 s).Drive.State != 1) with
  | true => exact .inl rfl
  | false =>
    cases ((guard1 s).Mode == 0) with
    | true => exact .inr (haltD_state _)
    | false =>
      cases (mayS (guard1 s) == 0) with
      | true => exact .inl rfl
      | false =>
        cases (mayS (guard1 s) == 13 || mayS (guard1 s) == 14) with
        | true => exact .inr (by show (3 : Int) ≠ 1; decide)
        | false => exact .inr (haltD_state _)
theorem guard_tg {s : LiftState} (h : Tg s) : Tg (guardS s) := by
  intro h1 h2
  rcases guard_drive s with hd | hd
  · rw [hd] at h1 ⊢
    rcases (guard_keep s).2.2.2.2.2.2.2 with hm | hm
    · exact h h1 (by omega)
    · omega
  · exact absurd h1 hd
theorem step_state (m : Motor) (d : Drive) : ((stepD m d).State = d.State ∨ (stepD m d).State = 0) ∧ (stepD m d).Target = d.Target := by
  unfold stepD
  cases (d.State == 2 && nextD m d == 0) with
  | true => exact ⟨.inr rfl, rfl⟩
  | false => exact ⟨.inl rfl, rfl⟩
theorem second2_keep (s : LiftState) : (second2 s).Drive = stepD s.Motor s.Drive ∧ (second2 s).Mode = s.Mode ∧ (second2 s).Motor = s.Motor ∧ (second2 s).Lift = s.Lift := by
  unfold second2
  cases (decide (passS s ≥ 0) && s.Mode == 1) <;> exact ⟨rfl, rfl, rfl, rfl⟩
theorem second2_tg {s : LiftState} (h : Tg s) : Tg (second2 s) := by
  obtain ⟨a, b, _⟩ := second2_keep s
  unfold Tg
  rw [a, b, (step_state _ _).2]
  intro h1 h2
  refine h ?_ h2
  rcases (step_state s.Motor s.Drive).1 with e | e <;> omega
theorem tickN_tg {s : LiftState} (h : Tg s) (k : Nat) : Tg (tickN s k) := by
  induction k with
  | zero => exact h
  | succ k ih => exact guard_tg (second2_tg ih)
theorem did_tg {s s' : LiftState} {e : LiftEvent} (h : Tg s) (d : Did s e s') : Tg s' := by
  cases d with
  | tick hk hn ht hu => exact tickN_tg h _
  | «open» hk hm hy => intro _ h2; exact absurd h2 (by show (1 : Int) ≠ 2; decide)
  | close hk hm => intro _ h2; exact absurd h2 (by show (3 : Int) ≠ 2; decide)
  | rescue hk hm hs ht => intro h1 _; exact ht h1
  | rescueH hk hm hs => intro h1 _; exact absurd h1 (haltD_state _)
  | bring hk hm i hi hn ho => exact h
  | rescued hk hm => intro _ h2; exact absurd h2 (by show (0 : Int) ≠ 2; decide)
  | start hk hm hn hz =>
    intro _ h2
    have ht : (startD s.Motor s.Drive e.N).1.Target = e.N := by
      unfold startD at hz ⊢
      cases h1 : (s.Drive.State == 2 || s.Drive.State == 3) with
      | true => rw [h1] at hz; cases hz
      | false =>
        cases h2 : (decide (1 ≤ e.N) && decide (e.N ≤ s.Motor.Max)) with
        | false => rw [h1, h2] at hz; cases hz
        | true => rfl
    show (startD s.Motor s.Drive e.N).1.Target ≤ 1000
    rw [ht]
    exact hn h2
  | stop hk => intro h1 _; exact absurd h1 (haltD_state _)
  | emerge hk => intro h1 _; exact absurd h1 (by show (3 : Int) ≠ 1; decide)
  | reset hk hz =>
    intro h1 _
    have : (resetD s.Drive).1.State = 0 := by
      unfold resetD
      cases (s.Drive.State != 3 || s.Drive.Speed != 0) <;> rfl
    have h1' : (resetD s.Drive).1.State = 1 := h1
    omega
  | chain hk c hc => exact h
  | test hk hz => exact h
  | gust hk hz => exact h
  | sign hk hz => exact h
  | join hk hm hz => exact h
  | single hk hm hz => exact h
structure Inv (s : LiftState) : Prop where
  ok : Ok s
  tg : Tg s
  gd : Gd s
theorem do_split {s : LiftState} {e : LiftEvent} (hz : (doS s e).2 = 0) : ∃ s', Did s e s' ∧ ((e.Kind = 1 ∧ (doS s e).1 = s') ∨ (e.Kind ≠ 1 ∧ (doS s e).1 = guardS s')) := by
  unfold doS at *
  cases h1 : ((actS s e).2 != 0) with
  | true => rw [h1] at hz; rw [bne_iff_ne] at h1; exact absurd hz h1
  | false =>
    rw [bne_eq_false_iff_eq] at h1
    refine ⟨_, act_did h1, ?_⟩
    rw [cond_false]
    cases hk : (e.Kind == 1) with
    | true => rw [beq_iff_eq] at hk; exact .inl ⟨hk, rfl⟩
    | false => rw [beq_eq_false_iff_ne] at hk; exact .inr ⟨hk, rfl⟩
theorem inv_do {s : LiftState} {e : LiftEvent} (h : Inv s) (hz : (doS s e).2 = 0) : Inv (doS s e).1 := by
  have ok := do_ok h.ok hz
  obtain ⟨s', d, ⟨hk, e1⟩ | ⟨hk, e1⟩⟩ := do_split hz
  · rw [e1] at ok ⊢
    have tg := did_tg h.tg d
    refine ⟨ok, tg, ?_⟩
    cases d with
    | tick _ hn ht hu =>
      obtain ⟨k, hk'⟩ : ∃ k, e.N.toNat = k + 1 := ⟨e.N.toNat - 1, by omega⟩
      rw [hk']
      exact guard_gd _
    | _ => omega
  · rw [e1] at ok ⊢
    exact ⟨ok, guard_tg (did_tg h.tg d), guard_gd _⟩
/-! New -/
def newL (l : Lift) (m : Motor) (br : List Brake) (c : Chain) (w : Alarm) (k : Checklist) : LiftState := ⟨l, m, z_Drive, br, c, w, (newR l).1, z_Queue, k, 0, 0, 0, 0⟩
theorem sum_zero (n : Nat) : (List.replicate n (0 : Int)).sum = 0 := by
  induction n with
  | zero => rfl
  | succ n ih => rw [List.replicate_succ, List.sum_cons, ih]; rfl
theorem new_ok {l : Lift} {m : Motor} {br : List Brake} {c : Chain} {w : Alarm} {k : Checklist} (h1 : (newR l).2 = 0) (h2 : fitP l m w 0) (h3 : rightB br = 0) (h4 : Ch.rightS c = 0) (h5 : rightC k = 0) : Inv (newL l m br c w k) := by
  have n := (new_iff l).1 h1
  have e := new_some h1
  have a := n.len
  have b := n.spc
  have d := n.mul
  have f := n.cnt
  have f1 : 1 ≤ cntN l := by
    by_cases hc : cntN l = 0
    · rw [hc] at d; omega
    · omega
  have f2 := h2.1.max
  have e2 : ((cntN l).toNat : Int) = cntN l := by omega
  have mx := h2.1
  have rl : RopeOk (newR l).1 l.Seats := by
    rw [e]
    refine ⟨by simp only; omega, by simp only [List.length_replicate]; omega, ?_, by simp only; omega, by simp only; omega, fun i hi => ?_⟩
    · simp only [List.length_replicate, e2]
      rw [Int.mul_left_comm, d]
      omega
    · have : (List.replicate (cntN l).toNat (0 : Int)).getD i 0 = 0 := by
        simp only [List.length_replicate] at hi
        simp [List.getD, List.getElem?_replicate, hi]
      simp only [this]
      obtain ⟨_, _, _, g4, _⟩ := id h2
      exact ⟨by omega, by omega, fun h => absurd rfl h⟩
  refine ⟨⟨h1, ?_, ?_, ?_, by simp [newL], h2, ⟨by simp [newL, z_Drive], ?_, by simp [newL, z_Drive], fun _ => rfl, fun h => (by cases h), fun _ => rfl⟩, rl, qok_empty, h3, Ch.right_zero.1 h4, h5, by simp [newL], by simp [newL], by simp [newL], ?_⟩, fun h => (by cases h), ⟨fun h => (by cases h), fun h => (by cases h)⟩⟩
  · show (newR l).1.Loop = _; rw [e]; rfl
  · show (newR l).1.Spacing = _; rw [e]; rfl
  · show (((newR l).1.Load.length : Nat) : Int) = cntN l; rw [e]; simp only [List.length_replicate]; omega
  · show 0 ≤ (0 : Int) ∧ (0 : Int) ≤ m.Max
    omega
  · show (0 : Int) - 0 = peopleS (newR l).1
    rw [e]
    unfold peopleS
    simp only [sum_zero]
    rfl
section
variable {N : Nat} (hN : 1000 < N)
include hN
theorem new_eq (x : Make) : ∃ r, l20_made N x = some r ∧ (r.2 = 0 → r.1 = newL x.Lift x.Motor x.Brakes x.Chain x.Wind x.Checks ∧ Inv r.1) := by
  unfold l20_made lift_New
  simp only [ropeNew_eq, Option.bind_some, bright_eq hN, Ch.right_eq hN, iright_eq hN]
  cases h1 : ((newR x.Lift).2 != 0) with
  | true =>
    rw [bne_iff_ne] at h1
    exact ⟨_, rfl, fun h => absurd h h1⟩
  | false =>
    rw [bne_eq_false_iff_eq] at h1
    obtain ⟨b, e, hb⟩ := fits_eq (N := N) ((new_iff _).1 h1) x.Motor x.Wind 0
    rw [cond_false, e, Option.bind_some]
    cases b with
    | false => exact ⟨_, rfl, fun h => by cases h⟩
    | true =>
      have h2 := hb.1 rfl
      simp only [Bool.not_true, cond_false]
      cases h3 : (rightB x.Brakes != 0) with
      | true => rw [bne_iff_ne] at h3; exact ⟨_, rfl, fun h => absurd h h3⟩
      | false =>
        rw [bne_eq_false_iff_eq] at h3
        cases h4 : (Ch.rightS x.Chain != 0) with
        | true => rw [bne_iff_ne] at h4; exact ⟨_, rfl, fun h => absurd h h4⟩
        | false =>
          rw [bne_eq_false_iff_eq] at h4
          cases h5 : (rightC x.Checks != 0) with
          | true => rw [bne_iff_ne] at h5; exact ⟨_, rfl, fun h => absurd h h5⟩
          | false =>
            rw [bne_eq_false_iff_eq] at h5
            have inv := new_ok h1 h2 h3 h4 h5
            have cl := inv.ok.chn.len
            have ln := inv.ok.line.len
            have bl := ((rightB_iff _).1 h3).1
            have ck := ck_ok h5
            have cki := ck.items
            have cks := ck.signs
            have ec : lift_clone N (newL x.Lift x.Motor x.Brakes x.Chain x.Wind x.Checks) = some (newL x.Lift x.Motor x.Brakes x.Chain x.Wind x.Checks) := liftClone_eq _ (show x.Brakes.length ≤ 900 by omega) (show x.Chain.Contacts.length ≤ 900 by exact Nat.le_trans cl (by decide)) (Nat.le_trans ln.2 (by decide)) (Nat.zero_le _) (show x.Checks.Items.length ≤ 900 by omega) (show x.Checks.Signs.length ≤ 900 by omega)
            simp only [cond_false]
            refine ⟨(newL x.Lift x.Motor x.Brakes x.Chain x.Wind x.Checks, 0), ?_, fun _ => ⟨rfl, inv⟩⟩
            show ((lift_clone N (newL x.Lift x.Motor x.Brakes x.Chain x.Wind x.Checks)).bind fun r11 => some (r11, (0 : Int))).bind _ = _
            rw [ec]
            rfl
/-! after some events -/
omit hN in
def aft (s : LiftState) (e : LiftEvent) : LiftState := bif (doS s e).2 == 0 then (doS s e).1 else s
omit hN in
theorem aft_inv {s : LiftState} (h : Inv s) (e : LiftEvent) : Inv (aft s e) := by
  unfold aft
  cases hz : (doS s e).2 == 0 with
  | true => rw [beq_iff_eq] at hz; exact inv_do h hz
  | false => exact h
omit hN in
theorem fold_inv {s : LiftState} (h : Inv s) (l : List LiftEvent) : Inv (l.foldl aft s) := by
  induction l generalizing s with
  | nil => exact h
  | cons e l ih => exact ih (aft_inv h e)
theorem after_eq {s : LiftState} (h : Inv s) (l : List LiftEvent) (hl : l.length ≤ 900) : l20_after N s l = some (l.foldl aft s) := by
  unfold l20_after
  refine (bindT (fun i => ((i : Int), (l.take i).foldl aft s)) rfl (l.foldl aft s) l.length (show l.length < N by omega) (fun i hi => ?_) ?_).trans rfl
  · have hi' := fold_inv h (l.take i)
    simp only [dlt hi, dge, Bool.and_self, cond_true, Int.toNat_natCast, do_eq hN hi'.ok, Option.bind_some, wrapC (show i < 9223372036854775807 by omega), take_getD l i z_LiftEvent hi, List.foldl_append, List.foldl_cons, List.foldl_nil]
    generalize (l.take i).foldl aft s = q
    unfold aft
    cases ((doS q (l.getD i z_LiftEvent)).2 == 0) <;> rfl
  · simp only [dnlt, cond_false, List.take_length]
theorem one_eq {s : LiftState} (h : Inv s) (l : List LiftEvent) (hl : l.length ≤ 900) {i : Nat} (hi : i < l.length) : l20_after N s ((l.take (i + 1)).drop i) = some (aft s (l.getD i z_LiftEvent)) := by
  have e : (l.take (i + 1)).drop i = [l.getD i z_LiftEvent] := by
    rw [take_getD l i z_LiftEvent hi, List.drop_append_of_le_length (by simp; omega), List.drop_eq_nil_of_le (by simp; omega), List.nil_append]
  rw [e, after_eq hN h _ (by simp)]
  rfl
omit hN in
theorem small_eq (x : Make) : ∃ b, l20_small N x = some b := ⟨_, by unfold l20_small; simp only [cond_and, Option.bind_some]; rfl⟩
end
end Go.Proofs.Ythjmbcnohgaihaa
