/- The lift: what the functions of the drive and the queue do. No condition. -/
import Derived.Test.YthjmbcnohgaihaaWut
namespace Go.Proofs.Ythjmbcnohgaihaa
open Go.Cm Go.Proofs
/-! the drive -/
structure Mot (m : Motor) : Prop where
  max : 500 ≤ m.Max ∧ m.Max ≤ 12000
  up : 50 ≤ m.Up ∧ m.Up ≤ 2000
  down : 50 ≤ m.Down ∧ m.Down ≤ 2000
  stop : m.Down ≤ m.Stop ∧ m.Stop ≤ 5000
structure Vd (m : Motor) (d : Drive) : Prop where
  state : 0 ≤ d.State ∧ d.State ≤ 3
  speed : 0 ≤ d.Speed ∧ d.Speed ≤ m.Max
  moved : 0 ≤ d.Moved ∧ d.Moved ≤ 1125899906842624
  stands : d.State = 0 → d.Speed = 0
  runs : d.State = 1 → 1 ≤ d.Target ∧ d.Target ≤ m.Max
  rest : d.State ≠ 1 → d.Target = 0
def nextD (m : Motor) (d : Drive) : Int := bif d.State == 1 then (bif decide (d.Speed < d.Target) then min (d.Speed + m.Up) d.Target else max (d.Speed - m.Down) d.Target) else bif d.State == 2 then max (d.Speed - m.Down) 0 else bif d.State == 3 then max (d.Speed - m.Stop) 0 else d.Speed
def stepD (m : Motor) (d : Drive) : Drive := Drive.mk (bif d.State == 2 && nextD m d == 0 then 0 else d.State) (nextD m d) d.Target ((d.Moved + nextD m d) % 1125899906842625)
def haltD (d : Drive) : Drive := bif d.State == 1 then Drive.mk 2 d.Speed 0 d.Moved else d
def emerD (d : Drive) : Drive := Drive.mk 3 d.Speed 0 d.Moved
def startD (m : Motor) (d : Drive) (x : Int) : Drive × Int := bif d.State == 2 || d.State == 3 then (z_Drive, 10) else bif decide (1 ≤ x) && decide (x ≤ m.Max) then (Drive.mk 1 d.Speed x d.Moved, 0) else (z_Drive, 2)
def resetD (d : Drive) : Drive × Int := bif d.State != 3 || d.Speed != 0 then (z_Drive, 10) else (Drive.mk 0 d.Speed d.Target d.Moved, 0)
theorem within_eq (N : Nat) (x a b : Int) : drive_within N x a b = some (decide (a ≤ x) && decide (x ≤ b)) := by
  unfold drive_within
  simp only [cond_and, Option.bind_some]
theorem dright_eq (N : Nat) (m : Motor) : ∃ b, drive_Right N m = some b ∧ (b = true ↔ Mot m) := by
  unfold drive_Right
  simp only [within_eq, Option.bind_some, cond_and]
  refine ⟨_, rfl, ?_⟩
  simp only [Bool.and_eq_true, decide_eq_true_eq]
  exact ⟨fun h => ⟨h.1, h.2.1, h.2.2.1, h.2.2.2⟩, fun h => ⟨h.max, h.up, h.down, h.stop⟩⟩
theorem dvalid_eq (N : Nat) (m : Motor) (d : Drive) : ∃ b, drive_Valid N m d = some b ∧ (b = true ↔ Vd m d) := by
  unfold drive_Valid
  simp only [within_eq, Option.bind_some, cond_or, cond_and]
  cases h1 : (!(decide (0 ≤ d.State) && decide (d.State ≤ 3)) || (!(decide (0 ≤ d.Speed) && decide (d.Speed ≤ m.Max)) || !(decide (0 ≤ d.Moved) && decide (d.Moved ≤ 1125899906842624)))) with
  | true =>
    refine ⟨false, rfl, fun h => (by cases h), fun h => ?_⟩
    have a := h.state
    have b := h.speed
    have c := h.moved
    simp only [Bool.or_eq_true, Bool.not_eq_true', Bool.and_eq_false_iff, decide_eq_false_iff_not] at h1
    omega
  | false =>
    simp only [Bool.or_eq_false_iff, Bool.not_eq_false', Bool.and_eq_true, decide_eq_true_eq] at h1
    rw [cond_false]
    cases h2 : (d.State == 0) && (d.Speed != 0) with
    | true =>
      rw [Bool.and_eq_true, beq_iff_eq, bne_iff_ne] at h2
      exact ⟨false, rfl, fun h => (by cases h), fun h => absurd (h.stands h2.1) h2.2⟩
    | false =>
      rw [cond_false]
      have h3 : d.State = 0 → d.Speed = 0 := fun h0 => by
        rw [h0] at h2
        simpa using h2
      cases h4 : d.State == 1 with
      | true =>
        rw [beq_iff_eq] at h4
        refine ⟨_, rfl, ?_⟩
        simp only [Bool.and_eq_true, decide_eq_true_eq]
        exact ⟨fun h => ⟨h1.1, h1.2.1, h1.2.2, h3, fun _ => h, fun h5 => absurd h4 h5⟩, fun h => h.runs h4⟩
      | false =>
        rw [beq_eq_false_iff_ne] at h4
        refine ⟨_, rfl, ?_⟩
        rw [beq_iff_eq]
        exact ⟨fun h => ⟨h1.1, h1.2.1, h1.2.2, h3, fun h5 => absurd h5 h4, fun _ => h⟩, fun h => h.rest h4⟩
theorem next_eq (N : Nat) {m : Motor} {d : Drive} (hm : Mot m) (v : Vd m d) : drive_next N m d = some (nextD m d) ∧ 0 ≤ nextD m d ∧ nextD m d ≤ m.Max ∧ (d.State = 0 → nextD m d = 0) := by
  have a := hm.max
  have b := hm.up
  have c := hm.down
  have e := hm.stop
  have f := v.speed
  have g := v.runs
  have g0 := v.stands
  unfold drive_next nextD
  rw [wrap64 (z := d.Speed + m.Up) (by omega) (by omega), wrap64 (z := d.Speed - m.Down) (by omega) (by omega), wrap64 (z := d.Speed - m.Stop) (by omega) (by omega)]
  cases h1 : d.State == 1 with
  | true =>
    rw [beq_iff_eq] at h1
    have g := g h1
    cases h2 : decide (d.Speed < d.Target) with
    | true => rw [decide_eq_true_eq] at h2; simp only [cond_true]; exact ⟨trivial, by omega, by omega, by omega⟩
    | false => rw [decide_eq_false_iff_not] at h2; simp only [cond_true, cond_false]; exact ⟨trivial, by omega, by omega, by omega⟩
  | false =>
    rw [beq_eq_false_iff_ne] at h1
    cases h2 : d.State == 2 with
    | true => rw [beq_iff_eq] at h2; simp only [cond_true, cond_false]; exact ⟨trivial, by omega, by omega, by omega⟩
    | false =>
      cases h3 : d.State == 3 with
      | true => rw [beq_iff_eq] at h3; simp only [cond_true, cond_false]; exact ⟨trivial, by omega, by omega, by omega⟩
      | false => simp only [cond_false]; exact ⟨trivial, by omega, by omega, fun h0 => g0 h0⟩
theorem step_eq {N : Nat} (hN : 1000 < N) {m : Motor} {d : Drive} (hm : Mot m) (v : Vd m d) : drive_Step N m d 1 = some (stepD m d) ∧ Vd m (stepD m d) := by
  obtain ⟨e1, b1, b2, b3⟩ := next_eq N hm v
  have hs := v.state
  have hmx := hm.max
  have hmv := v.moved
  have hr := v.runs
  have hre := v.rest
  have hmod : (IntKind.i64.wrap (d.Moved + nextD m d)).tmod 1125899906842625 = (d.Moved + nextD m d) % 1125899906842625 := by
    rw [wrap64 (by omega) (by omega), Int.tmod_eq_emod_of_nonneg (by omega)]
  constructor
  · unfold drive_Step
    have c1 : min (max (1 : Int) 0) 3600 = 1 := by decide
    refine (bindT (fun i : Nat => ((i : Int), if i = 0 then d else stepD m d)) rfl (stepD m d) 1 (show 1 < N by omega) (fun i hi => ?_) ?_).trans rfl
    · have hi : i = 0 := by omega
      subst hi
      have c2 : decide (((0 : Nat) : Int) < 1) = true := by decide
      have c3 : IntKind.i64.wrap (((0 : Nat) : Int) + 1) = ((0 + 1 : Nat) : Int) := by decide
      simp only [c1, c2, cond_true, if_true, e1, Option.bind_some, cond_and, hmod, c3, Nat.zero_add, Nat.one_ne_zero, if_false]
      unfold stepD
      cases (d.State == 2 && nextD m d == 0) <;> rfl
    · have c2 : decide (((1 : Nat) : Int) < 1) = false := by decide
      simp only [c1, c2, cond_false, Nat.one_ne_zero, if_false]
  · have hst : (stepD m d).State = d.State ∨ (d.State = 2 ∧ nextD m d = 0 ∧ (stepD m d).State = 0) := by
      unfold stepD
      cases h1 : (d.State == 2 && nextD m d == 0) with
      | true => rw [Bool.and_eq_true, beq_iff_eq, beq_iff_eq] at h1; exact .inr ⟨h1.1, h1.2, rfl⟩
      | false => exact .inl rfl
    refine ⟨?_, ⟨b1, b2⟩, ?_, fun h => ?_, fun h => ?_, fun h => ?_⟩
    · rcases hst with h | ⟨_, _, h⟩ <;> rw [h] <;> omega
    · show 0 ≤ (d.Moved + nextD m d) % 1125899906842625 ∧ (d.Moved + nextD m d) % 1125899906842625 ≤ 1125899906842624
      omega
    · show nextD m d = 0
      rcases hst with h1 | ⟨_, h1, _⟩
      · exact b3 (by omega)
      · exact h1
    · show 1 ≤ d.Target ∧ d.Target ≤ m.Max
      rcases hst with h1 | ⟨_, _, h1⟩
      · exact hr (by omega)
      · omega
    · show d.Target = 0
      rcases hst with h1 | ⟨h1, _, _⟩
      · exact hre (by omega)
      · exact hre (by omega)
theorem halt_eq (N : Nat) (m : Motor) (d : Drive) : drive_Halt N m d = some (haltD d) := by
  unfold drive_Halt haltD
  cases d.State == 1 <;> rfl
theorem halt_ok {m : Motor} {d : Drive} (v : Vd m d) : Vd m (haltD d) ∧ (haltD d).State ≠ 1 ∧ (haltD d).Speed = d.Speed := by
  unfold haltD
  cases h : d.State == 1 with
  | true => exact ⟨⟨by simp, v.speed, v.moved, fun h => by simp at h, fun h => by simp at h, fun _ => rfl⟩, by simp, rfl⟩
  | false => rw [beq_eq_false_iff_ne] at h; exact ⟨v, h, rfl⟩
theorem emer_ok {m : Motor} {d : Drive} (v : Vd m d) : Vd m (emerD d) ∧ (emerD d).State = 3 ∧ (emerD d).Speed = d.Speed :=
  ⟨⟨by simp [emerD], v.speed, v.moved, fun h => by simp [emerD] at h, fun h => by simp [emerD] at h, fun _ => rfl⟩, rfl, rfl⟩
theorem start_eq (N : Nat) (m : Motor) (d : Drive) (x : Int) : drive_Start N m d x = some (startD m d x) := by
  unfold drive_Start startD
  simp only [cond_or, Option.bind_some, within_eq]
  cases (d.State == 2 || d.State == 3) with
  | true => rfl
  | false => cases (decide (1 ≤ x) && decide (x ≤ m.Max)) <;> rfl
theorem start_ok {m : Motor} {d : Drive} (v : Vd m d) {x : Int} (h : (startD m d x).2 = 0) : Vd m (startD m d x).1 ∧ (startD m d x).1.State = 1 ∧ (startD m d x).1.Target = x ∧ (startD m d x).1.Speed = d.Speed := by
  unfold startD at h ⊢
  cases h1 : (d.State == 2 || d.State == 3) with
  | true => rw [h1] at h; cases h
  | false =>
    cases h2 : (decide (1 ≤ x) && decide (x ≤ m.Max)) with
    | false => rw [h1, h2] at h; cases h
    | true =>
      simp only [Bool.and_eq_true, decide_eq_true_eq] at h2
      exact ⟨⟨by simp, v.speed, v.moved, fun h => by simp at h, fun _ => h2, fun h => by simp at h⟩, rfl, rfl, rfl⟩
theorem reset_eq (N : Nat) (m : Motor) (d : Drive) : drive_Reset N m d = some (resetD d) := by
  unfold drive_Reset resetD
  simp only [cond_or, Option.bind_some]
  cases (d.State != 3 || d.Speed != 0) <;> rfl
theorem reset_ok {m : Motor} {d : Drive} (v : Vd m d) (h : (resetD d).2 = 0) : Vd m (resetD d).1 ∧ (resetD d).1.State = 0 := by
  unfold resetD at h ⊢
  cases h1 : (d.State != 3 || d.Speed != 0) with
  | true => rw [h1] at h; cases h
  | false =>
    simp only [Bool.or_eq_false_iff, bne_eq_false_iff_eq] at h1
    exact ⟨⟨by simp, v.speed, v.moved, fun _ => h1.2, fun h => by simp at h, fun _ => v.rest (by omega)⟩, rfl⟩
/-! the queue -/
structure QOk (q : Queue) : Prop where
  len : q.Groups.length ≤ 200
  sing : 0 ≤ q.Singles ∧ q.Singles ≤ 10000
  grp : ∀ g, g ∈ q.Groups → 1 ≤ g ∧ g ≤ 16
def qlen (q : Queue) : Int := q.Singles + q.Groups.sum
theorem sum_ge {l : List Int} (h : ∀ g, g ∈ l → 1 ≤ g ∧ g ≤ 16) : 0 ≤ l.sum ∧ l.sum ≤ 16 * l.length := by
  induction l with
  | nil => simp
  | cons a l ih =>
    have h1 := h a (List.mem_cons_self ..)
    have h2 := ih fun g hg => h g (List.mem_cons_of_mem _ hg)
    simp only [List.sum_cons, List.length_cons]
    omega
theorem qok_empty : QOk z_Queue := ⟨by decide, by decide, fun g hg => by cases hg⟩
section
variable {N : Nat} (hN : 1000 < N)
include hN
theorem qright_eq (q : Queue) : ∃ b, queue_Right N q = some b ∧ (b = true ↔ QOk q) := by
  unfold queue_Right
  simp only [cond_or, Option.bind_some]
  cases h1 : (decide ((q.Groups.length : Int) > 200) || (decide (q.Singles < 0) || decide (q.Singles > 10000))) with
  | true =>
    refine ⟨false, rfl, fun h => (by cases h), fun h => ?_⟩
    have a := h.len
    have b := h.sing
    simp only [Bool.or_eq_true, decide_eq_true_eq] at h1
    omega
  | false =>
    simp only [Bool.or_eq_false_iff, decide_eq_false_iff_not] at h1
    have hl : q.Groups.length ≤ 200 := by omega
    rw [cond_false, search (fun i => decide (q.Groups.getD i 0 < 1) || decide (q.Groups.getD i 0 > 16)) (fun _ => false) () q.Groups.length (by omega) (fun i hi => ?_) (by simp)]
    · cases hf : fst (fun i => decide (q.Groups.getD i 0 < 1) || decide (q.Groups.getD i 0 > 16)) q.Groups.length with
      | some i =>
        refine ⟨false, rfl, fun h => (by cases h), fun h => ?_⟩
        obtain ⟨a, b, _⟩ := fst_some.1 hf
        have := h.grp _ (getD_mem q.Groups i 0 a)
        simp only [Bool.or_eq_true, decide_eq_true_eq] at b
        omega
      | none =>
        refine ⟨true, rfl, fun _ => ⟨hl, by omega, fun g hg => ?_⟩, fun _ => rfl⟩
        obtain ⟨i, hi, rfl⟩ := mem_getD 0 hg
        have := fst_none.1 hf i hi
        simp only [Bool.or_eq_false_iff, decide_eq_false_iff_not] at this
        omega
    · simp only [dlt hi, dge, Bool.and_self, cond_true, Int.toNat_natCast, cond_or, Option.bind_some, wrapN (show i < 9223372036854775807 by omega)]
omit hN in
theorem qclone_eq {l : List Int} (hl : l.length ≤ 900) : queue_clone N l = some l := by
  unfold queue_clone
  have c1 : decide ((l.length : Int) ≤ (l.length : Int)) = true := by simp
  have c2 : decide ((l.length : Int) * 8 ≤ 140737488355328) = true := by rw [decide_eq_true_eq]; omega
  simp only [c1, c2, Bool.and_self, cond_true, Option.bind_some, Int.toNat_natCast, List.length_replicate, decide_true]
omit hN in
theorem join_eq {q : Queue} (h : QOk q) (n : Int) : W (fun r : Queue × Int => r.2 = 0 → QOk r.1 ∧ qlen r.1 = qlen q + n) (queue_Join N q n) := by
  have hl := h.len
  unfold queue_Join
  simp only [cond_or, Option.bind_some, qclone_eq (N := N) (show q.Groups.length ≤ 900 by omega)]
  refine W_cond (fun _ => W_some fun h => by cases h) (fun h1 => W_cond (fun _ => W_some fun h => by cases h) (fun h2 => ?_))
  simp only [Bool.or_eq_false_iff, decide_eq_false_iff_not] at h1
  rw [decide_eq_false_iff_not] at h2
  have hb : decide ((q.Groups.length + [n].length) * 8 ≤ 140737488355328) = true := by simp only [List.length_singleton, decide_eq_true_eq]; omega
  rw [hb, cond_true]
  refine W_some fun _ => ⟨⟨by simp; omega, h.sing, fun g hg => ?_⟩, ?_⟩
  · rcases List.mem_append.1 hg with hg | hg
    · exact h.grp g hg
    · rw [List.mem_singleton] at hg; omega
  · unfold qlen
    simp only [List.sum_append, List.sum_cons, List.sum_nil]
    omega
omit hN in
theorem single_eq {q : Queue} (h : QOk q) (n : Int) : W (fun r : Queue × Int => r.2 = 0 → QOk r.1 ∧ qlen r.1 = qlen q + n) (queue_Single N q n) := by
  have hl := h.len
  have hs := h.sing
  unfold queue_Single
  simp only [cond_or, Option.bind_some, qclone_eq (N := N) (show q.Groups.length ≤ 900 by omega)]
  refine W_cond (fun _ => W_some fun h => by cases h) (fun h1 => W_cond (fun _ => W_some fun h => by cases h) (fun h2 => ?_))
  simp only [Bool.or_eq_false_iff, decide_eq_false_iff_not] at h1
  rw [wrap64 (by omega) (by omega), decide_eq_false_iff_not] at h2
  rw [wrap64 (by omega) (by omega)]
  refine W_some fun _ => ⟨⟨hl, by simp only; omega, h.grp⟩, ?_⟩
  unfold qlen
  simp only
  omega
theorem seat_eq {q : Queue} (h : QOk q) {seats : Int} (h1 : 1 ≤ seats) (h2 : seats ≤ 16) : W (fun r : Queue × Int × Int => r.2.2 = 0 ∧ QOk r.1 ∧ qlen r.1 + r.2.1 = qlen q ∧ 0 ≤ r.2.1 ∧ r.2.1 ≤ seats) (queue_Seat N q seats) := by
  have hl := h.len
  have hs := h.sing
  unfold queue_Seat
  have c0 : (decide (seats < 1) || decide (seats > 16)) = false := by simp only [Bool.or_eq_false_iff, decide_eq_false_iff_not]; omega
  simp only [cond_or, Option.bind_some, c0, cond_false, qclone_eq (N := N) (show q.Groups.length ≤ 900 by omega), Bool.true_and]
  have hloop : (∀ g r, q.Groups = g :: r → g ≤ seats) → W (fun r : Queue × Int × Int => r.2.2 = 0 ∧ QOk r.1 ∧ qlen r.1 + r.2.1 = qlen q ∧ 0 ≤ r.2.1 ∧ r.2.1 ≤ seats) ((whileF N
                (fun (p6 : List Int × Int) =>
                  (bif decide ((↑(List.length p6.fst) : Int) > (0 : Int)) then
                        bif decide ((0 : Int) < (↑(List.length p6.fst) : Int)) then
                          some (decide (List.getD p6.fst 0 (0 : Int) ≤ p6.snd))
                        else none
                      else some false).bind
                    fun (r7 : Bool) =>
                    bif r7 then
                      bif decide ((0 : Int) < (↑(List.length p6.fst) : Int)) then
                        bif decide ((1 : Int) ≤ (↑(List.length p6.fst) : Int)) then
                          some
                            (Sum.inl
                              (List.drop 1 p6.fst,
                                IntKind.i64.wrap (p6.snd - List.getD p6.fst 0 (0 : Int))))
                        else none
                      else none
                    else some (Sum.inr p6))
                (q.Groups, seats)).bind
            fun (r8 : List Int × Int) =>
            some
              (Queue.mk r8.fst (IntKind.i64.wrap (q.Singles - min r8.snd q.Singles)),
                IntKind.i64.wrap (seats - IntKind.i64.wrap (r8.snd - min r8.snd q.Singles)), (0 : Int))) := fun _ => by
    refine W_bind (Q' := fun r : List Int × Int => 0 ≤ r.2 ∧ r.2 ≤ seats ∧ r.1.length ≤ 200 ∧ (∀ g, g ∈ r.1 → 1 ≤ g ∧ g ≤ 16) ∧ r.1.sum + (seats - r.2) = q.Groups.sum) ?_ fun r hr => ?_
    · refine W_loop (fun i st => 0 ≤ st.2 ∧ st.2 + i ≤ seats ∧ st.1.length ≤ 200 ∧ (∀ g, g ∈ st.1 → 1 ≤ g ∧ g ≤ 16) ∧ st.1.sum + (seats - st.2) = q.Groups.sum) 16 ⟨by simp only; omega, by simp, hl, h.grp, by simp only; omega⟩ (fun i st hi hI => ?_) (fun st hI => ?_) (by omega)
      · obtain ⟨l, z⟩ := st
        obtain ⟨a1, a2, a3, a4, a5⟩ := hI
        simp only at a1 a2 a3 a4 a5
        cases l with
        | nil => exact W_some ⟨a1, by omega, a3, a4, a5⟩
        | cons g l =>
          have hg := a4 g (List.mem_cons_self ..)
          have g1 : decide (((g :: l).length : Int) > 0) = true := by simp
          have g2 : decide ((0 : Int) < ((g :: l).length : Int)) = true := by simp
          have g3 : decide ((1 : Int) ≤ ((g :: l).length : Int)) = true := by simp only [List.length_cons, decide_eq_true_eq]; omega
          have g4 : (g :: l).getD 0 (0 : Int) = g := rfl
          simp only [g1, g2, g3, g4, cond_true, Option.bind_some]
          refine W_cond (fun h0 => ?_) (fun _ => W_some ⟨a1, by omega, a3, a4, a5⟩)
          rw [decide_eq_true_eq] at h0
          rw [wrap64 (by omega) (by omega)]
          simp only [List.length_cons, List.sum_cons] at a3 a5
          refine W_some ⟨by simp only; omega, by simp only; omega, ?_, fun g' hg' => a4 g' (List.mem_cons_of_mem _ hg'), ?_⟩
          · show l.length ≤ 200
            omega
          · show l.sum + (seats - (z - g)) = q.Groups.sum
            omega
      · obtain ⟨l, z⟩ := st
        obtain ⟨a1, a2, a3, a4, a5⟩ := hI
        simp only at a1 a2 a3 a4 a5
        cases l with
        | nil => exact W_some ⟨a1, by omega, a3, a4, a5⟩
        | cons g l =>
          have hg := a4 g (List.mem_cons_self ..)
          have g1 : decide (((g :: l).length : Int) > 0) = true := by simp
          have g2 : decide ((0 : Int) < ((g :: l).length : Int)) = true := by simp
          have g4 : (g :: l).getD 0 (0 : Int) = g := rfl
          have g5 : decide (g ≤ z) = false := by rw [decide_eq_false_iff_not]; omega
          simp only [g1, g2, g4, g5, cond_true, Option.bind_some, cond_false]
          exact W_some ⟨a1, by omega, a3, a4, a5⟩
    · obtain ⟨l, z⟩ := r
      obtain ⟨a1, a2, a3, a4, a5⟩ := hr
      simp only at a1 a2 a3 a4 a5
      simp only
      have hmn : 0 ≤ min z q.Singles ∧ min z q.Singles ≤ z ∧ min z q.Singles ≤ q.Singles := by omega
      rw [wrap64 (z := q.Singles - min z q.Singles) (by omega) (by omega), wrap64 (z := z - min z q.Singles) (by omega) (by omega), wrap64 (by omega) (by omega)]
      refine W_some ⟨rfl, ⟨a3, by simp only; omega, a4⟩, ?_, by simp only; omega, by simp only; omega⟩
      unfold qlen
      simp only
      omega
  cases hg : q.Groups with
  | nil =>
    rw [hg] at hloop
    exact hloop fun g r e => by cases e
  | cons g r =>
    have hgr := h.grp g (by rw [hg]; exact List.mem_cons_self ..)
    have g1 : decide (((g :: r).length : Int) > 0) = true := by simp
    have g2 : decide ((0 : Int) < ((g :: r).length : Int)) = true := by simp
    have g4 : (g :: r).getD 0 (0 : Int) = g := rfl
    simp only [g1, g2, g4, cond_true, Option.bind_some]
    refine W_cond (fun h0 => ?_) (fun h0 => ?_)
    · rw [decide_eq_true_eq] at h0
      rw [wrap64 (by omega) (by omega)]
      have hl' := hl
      rw [hg] at hl'
      refine W_some ⟨rfl, ⟨by simp only [List.length_set]; exact hl', hs, fun g' hg' => ?_⟩, ?_, by simp only; omega, by simp only; omega⟩
      · rcases List.mem_cons.1 hg' with rfl | hg'
        · omega
        · exact h.grp g' (by rw [hg]; exact List.mem_cons_of_mem _ hg')
      · show q.Singles + ((g - seats) + r.sum) + seats = qlen q
        unfold qlen
        rw [hg, List.sum_cons]
        omega
    · rw [hg] at hloop
      rw [decide_eq_false_iff_not] at h0
      exact hloop fun g' r' e => by cases e; omega
end
end Go.Proofs.Ythjmbcnohgaihaa
