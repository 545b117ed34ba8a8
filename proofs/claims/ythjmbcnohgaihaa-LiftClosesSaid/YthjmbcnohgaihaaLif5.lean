/- The lift: the parts of a lift as plain functions: queue, brakes, alarm, checklist. No condition. -/
import Derived.Test.YthjmbcnohgaihaaLif4
import Derived.Test.YthjmbcnohgaihaaLif1
namespace Go.Proofs.Ythjmbcnohgaihaa
open Go.Cm Go.Proofs
/-! the queue -/
def joinS (q : Queue) (n : Int) : Queue × Int := bif decide (n < 1) || decide (n > 16) then (z_Queue, 2) else bif decide ((q.Groups.length : Int) ≥ 200) then (z_Queue, 9) else (⟨q.Groups ++ [n], q.Singles⟩, 0)
def singleS (q : Queue) (n : Int) : Queue × Int := bif decide (n < 1) || decide (n > 1000) then (z_Queue, 2) else bif decide (q.Singles + n > 10000) then (z_Queue, 9) else (⟨q.Groups, q.Singles + n⟩, 0)
def seatL : List Int → Int → List Int × Int
  | [], k => ([], k)
  | g :: r, k => bif decide (g ≤ k) then seatL r (k - g) else (g :: r, k)
def seatR (q : Queue) (seats : Int) : Queue × Int := (⟨(seatL q.Groups seats).1, q.Singles - min (seatL q.Groups seats).2 q.Singles⟩, seats - ((seatL q.Groups seats).2 - min (seatL q.Groups seats).2 q.Singles))
def seatS (q : Queue) (seats : Int) : Queue × Int := match q.Groups with
  | [] => seatR q seats
  | g :: r => bif decide (g > seats) then (⟨(g - seats) :: r, q.Singles⟩, seats) else seatR q seats
/-! the brakes -/
def inB (b : Brake) : Bool := decide (1 ≤ b.ID) && decide (b.ID ≤ 9999) && ((b.Kind == 0 || b.Kind == 1) && (decide (1 ≤ b.Force) && decide (b.Force ≤ 10000000) && (decide (-1 ≤ b.Tested) && decide (b.Tested ≤ 20000000) && (decide (0 ≤ b.Measured) && decide (b.Measured ≤ 10000000) && (b.Tested != -1 || b.Measured == 0)))))
def dupB (l : List Brake) (i : Nat) : Bool := (fst (fun j => (l.getD j z_Brake).ID == (l.getD i z_Brake).ID) i).isSome
def errB (l : List Brake) (i : Nat) : Int := bif !inB (l.getD i z_Brake) then 2 else bif dupB l i then 7 else 0
def rightB (l : List Brake) : Int := bif decide ((l.length : Int) > 8) then 4 else match fst (fun i => errB l i != 0) l.length with
  | some i => errB l i
  | none => 0
def idxB (l : List Brake) (id : Int) : Option Nat := fst (fun i => (l.getD i z_Brake).ID == id) l.length
def testB (l : List Brake) (id m t : Int) : List Brake × Int := match idxB l id with
  | none => ([], 8)
  | some i => bif !(decide (0 ≤ m) && decide (m ≤ 10000000)) || !(decide (0 ≤ t) && decide (t ≤ 20000000)) then ([], 2) else bif decide (t < (l.getD i z_Brake).Tested) then ([], 11) else (l.set i ⟨(l.getD i z_Brake).ID, (l.getD i z_Brake).Kind, (l.getD i z_Brake).Force, t, m⟩, 0)
def nineB (n : Int) : Int := 9 * (n / 10) + (9 * (n % 10) + 9) / 10
def validB (t : Int) (b : Brake) : Bool := decide (b.Tested ≥ 0) && (decide (t ≥ b.Tested) && (decide (t - b.Tested < 604800) && decide (b.Measured ≥ nineB b.Force)))
def forceB (l : List Brake) (k t : Int) : Int := (l.map fun b => bif b.Kind == k && validB t b then b.Measured else 0).sum
def enoughB (l : List Brake) (load t : Int) : Bool := decide (forceB l 0 t ≥ load) && decide (forceB l 1 t ≥ load)
/-! the alarm -/
def badA (a : Alarm) (v t : Int) : Bool := decide (a.Off < 0) || (decide (a.On < a.Off) || (!(decide (0 ≤ a.Hold) && decide (a.Hold ≤ 86400)) || (decide (v < 0) || (!(decide (0 ≤ t) && decide (t ≤ 20000000)) || decide (a.Low > t)))))
def lowA (a : Alarm) (t : Int) : Int := bif decide (a.Low < 0) then t else a.Low
def updA (a : Alarm) (v t : Int) : Alarm × Int := bif badA a v t then (a, 2) else bif decide (v ≥ a.On) then (⟨a.On, a.Off, a.Hold, true, -1⟩, 0) else bif decide (v ≥ a.Off) then (⟨a.On, a.Off, a.Hold, a.Active, -1⟩, 0) else (⟨a.On, a.Off, a.Hold, bif decide (t - lowA a t ≥ a.Hold) then false else a.Active, lowA a t⟩, 0)
/-! the checklist -/
def hasI (l : List Int) (x : Int) : Bool := l.any (· == x)
def errI (l : List Int) (i : Nat) : Int := bif decide (l.getD i 0 < 1) || decide (l.getD i 0 > 9999) then 2 else bif hasI (l.take i) (l.getD i 0) then 7 else 0
def errG (its : List Int) (l : List Sign) (i : Nat) : Int := bif !hasI its (l.getD i z_Sign).Item then 8 else bif decide ((l.getD i z_Sign).By < 1) || decide ((l.getD i z_Sign).By > 9999) then 17 else bif decide ((l.getD i z_Sign).At < 0) || decide ((l.getD i z_Sign).At > 20000000) then 2 else bif decide (0 < i) && decide ((l.getD i z_Sign).At < (l.getD (i - 1) z_Sign).At) then 11 else 0
def rightC (c : Checklist) : Int := bif decide ((c.Items.length : Int) > 64) || decide ((c.Signs.length : Int) > 200) then 4 else bif decide (c.Every < 1) || decide (c.Every > 604800) then 2 else match fst (fun i => errI c.Items i != 0) c.Items.length with
  | some i => errI c.Items i
  | none => match fst (fun i => errG c.Items c.Signs i != 0) c.Signs.length with
    | some i => errG c.Items c.Signs i
    | none => 0
def signC0 (c : Checklist) (it b t : Int) : Checklist := ⟨c.Items, c.Every, c.Signs.filter (fun g => g.Item != it) ++ [⟨it, b, t⟩]⟩
def signC (c : Checklist) (it b t : Int) : Checklist × Int := bif rightC (signC0 c it b t) != 0 then (z_Checklist, rightC (signC0 c it b t)) else (signC0 c it b t, 0)
def countC (c : Checklist) (t it : Int) (g : Sign) : Bool := g.Item == it && (decide (g.At ≤ t) && decide (t < g.At + c.Every))
def openC (c : Checklist) (t : Int) : List Int := c.Items.filter fun it => !c.Signs.any (countC c t it)
def doneC (c : Checklist) (t : Int) : Bool := ((openC c t).length : Int) == 0
theorem join_ex {N : Nat} {q : Queue} (h : QOk q) (n : Int) : queue_Join N q n = some (joinS q n) := by
  have hl := h.len
  unfold queue_Join joinS
  simp only [cond_or, Option.bind_some, qclone_eq (N := N) (show q.Groups.length ≤ 900 by omega)]
  have hb : decide ((q.Groups.length + [n].length) * 8 ≤ 140737488355328) = true := by simp only [List.length_singleton, decide_eq_true_eq]; omega
  rw [hb]
  cases (decide (n < 1) || decide (n > 16)) <;> cases decide ((q.Groups.length : Int) ≥ 200) <;> rfl
theorem single_ex {N : Nat} {q : Queue} (h : QOk q) (n : Int) : queue_Single N q n = some (singleS q n) := by
  have hl := h.len
  have hs := h.sing
  unfold queue_Single singleS
  simp only [cond_or, Option.bind_some, qclone_eq (N := N) (show q.Groups.length ≤ 900 by omega)]
  cases h1 : (decide (n < 1) || decide (n > 1000)) with
  | true => rfl
  | false =>
    simp only [Bool.or_eq_false_iff, decide_eq_false_iff_not] at h1
    rw [wrap64 (by omega) (by omega)]
    cases decide (q.Singles + n > 10000) <;> rfl
theorem seat_ex {N : Nat} (hN : 1000 < N) {q : Queue} (h : QOk q) {seats : Int} (h1 : 1 ≤ seats) (h2 : seats ≤ 16) : queue_Seat N q seats = some ((seatS q seats).1, (seatS q seats).2, 0) := by
  have hl := h.len
  have hs := h.sing
  unfold queue_Seat
  have c0 : (decide (seats < 1) || decide (seats > 16)) = false := by simp only [Bool.or_eq_false_iff, decide_eq_false_iff_not]; omega
  simp only [cond_or, Option.bind_some, c0, cond_false, qclone_eq (N := N) (show q.Groups.length ≤ 900 by omega), Bool.true_and]
  have sb : ∀ (l : List Int) (k : Int), (∀ g, g ∈ l → 1 ≤ g ∧ g ≤ 16) → 0 ≤ k → 0 ≤ (seatL l k).2 ∧ (seatL l k).2 ≤ k := by
    intro l
    induction l with
    | nil => intro k _ hk; exact ⟨hk, Int.le_refl _⟩
    | cons g r ih =>
      intro k hg hk
      unfold seatL
      cases hc : decide (g ≤ k) with
      | false => exact ⟨hk, Int.le_refl _⟩
      | true =>
        rw [decide_eq_true_eq] at hc
        have g1 := hg g (List.mem_cons_self ..)
        have := ih (k - g) (fun x hx => hg x (List.mem_cons_of_mem _ hx)) (by omega)
        rw [cond_true]
        omega
  have hrest : ((whileF N
                (fun (p6 : List Int × Int) =>
                  (bif decide ((↑(List.length p6.fst) : Int) > (0 : Int)) then
                        bif decide ((0 : Int) < (↑(List.length p6.fst) : Int)) then
                          some (decide (List.getD p6.fst 0 (0 : Int) ≤ p6.snd))
                        else none
                      else some false).bind
                    fun (r7 : Bool) =>
                    bif r7 then
                      bif decide ((0 : Int) < (↑(List.length p6.fst) : Int)) then
                        bif decide ((1 : Int) ≤ (↑(List.length p6.fst) : Int)) then
                          some
                            (Sum.inl
                              (List.drop 1 p6.fst,
                                IntKind.i64.wrap (p6.snd - List.getD p6.fst 0 (0 : Int))))
                        else none
                      else none
                    else some (Sum.inr p6))
                (q.Groups, seats)).bind
            fun (r8 : List Int × Int) =>
            some
              (Queue.mk r8.fst (IntKind.i64.wrap (q.Singles - min r8.snd q.Singles)),
                IntKind.i64.wrap (seats - IntKind.i64.wrap (r8.snd - min r8.snd q.Singles)), (0 : Int))) = some ((seatR q seats).1, (seatR q seats).2, 0) := by
    refine (bind_while (r0 := seatL q.Groups seats) (whileF_eq (fun i st => st.1.length + i = q.Groups.length ∧ seatL st.1 st.2 = seatL q.Groups seats ∧ 0 ≤ st.2 ∧ st.2 ≤ 16 ∧ ∀ g, g ∈ st.1 → 1 ≤ g ∧ g ≤ 16) q.Groups.length ⟨rfl, rfl, by simp only; omega, by simp only; omega, h.grp⟩ (fun i st hi hI => ?_) (fun st hI => ?_) (by omega))).trans ?_
    · obtain ⟨l, z⟩ := st
      obtain ⟨a1, a2, a3, a4, a5⟩ := hI
      simp only at a1 a2 a3 a4 a5
      cases l with
      | nil => simp only [List.length_nil] at a1; omega
      | cons g l =>
        have hg := a5 g (List.mem_cons_self ..)
        have g1 : decide (((g :: l).length : Int) > 0) = true := by simp
        have g2 : decide ((0 : Int) < ((g :: l).length : Int)) = true := by simp
        have g3 : decide ((1 : Int) ≤ ((g :: l).length : Int)) = true := by simp only [List.length_cons, decide_eq_true_eq]; omega
        have g4 : (g :: l).getD 0 (0 : Int) = g := rfl
        simp only [g1, g2, g3, g4, cond_true, Option.bind_some]
        replace a2 : (bif decide (g ≤ z) then seatL l (z - g) else (g :: l, z)) = seatL q.Groups seats := a2
        cases hc : decide (g ≤ z) with
        | false =>
          rw [hc, cond_false] at a2
          exact .inr (by rw [cond_false, a2])
        | true =>
          rw [hc, cond_true] at a2
          rw [decide_eq_true_eq] at hc
          refine .inl ⟨(l, z - g), ?_, ?_, a2, ?_, ?_, fun g' hg' => a5 g' (List.mem_cons_of_mem _ hg')⟩
          · rw [cond_true, wrap64 (by omega) (by omega)]; rfl
          · simp only [List.length_cons] at a1 ⊢; omega
          · simp only; omega
          · simp only; omega
    · obtain ⟨l, z⟩ := st
      obtain ⟨a1, a2, a3, a4, a5⟩ := hI
      simp only at a1 a2 a3 a4 a5
      cases l with
      | nil => rw [← a2]; rfl
      | cons g l => simp only [List.length_cons] at a1; omega
    · have b := sb q.Groups seats h.grp (by omega)
      unfold seatR
      have hmn : 0 ≤ min (seatL q.Groups seats).2 q.Singles ∧ min (seatL q.Groups seats).2 q.Singles ≤ (seatL q.Groups seats).2 ∧ min (seatL q.Groups seats).2 q.Singles ≤ q.Singles := by omega
      rw [wrap64 (z := q.Singles - min (seatL q.Groups seats).2 q.Singles) (by omega) (by omega), wrap64 (z := (seatL q.Groups seats).2 - min (seatL q.Groups seats).2 q.Singles) (by omega) (by omega), wrap64 (by omega) (by omega)]
  unfold seatS
  cases hg : q.Groups with
  | nil =>
    rw [hg] at hrest
    exact hrest
  | cons g r =>
    have hgr := h.grp g (by rw [hg]; exact List.mem_cons_self ..)
    have g1 : decide (((g :: r).length : Int) > 0) = true := by simp
    have g2 : decide ((0 : Int) < ((g :: r).length : Int)) = true := by simp
    have g4 : (g :: r).getD 0 (0 : Int) = g := rfl
    simp only [g1, g2, g4, cond_true, Option.bind_some]
    cases hc : decide (g > seats) with
    | true =>
      rw [decide_eq_true_eq] at hc
      simp only [cond_true]
      rw [wrap64 (by omega) (by omega)]
      rfl
    | false =>
      simp only [cond_false]
      rw [hg] at hrest
      exact hrest
/-! brakes -/
section
variable {N : Nat}
theorem bwithin_eq (x a b : Int) : brake_within N x a b = some (decide (a ≤ x) && decide (x ≤ b)) := by
  unfold brake_within
  simp only [cond_and, Option.bind_some]
theorem inB_eq (b : Brake) : brake_inRange N b = some (inB b) := by
  unfold brake_inRange inB
  simp only [bwithin_eq, Option.bind_some]
  cases (decide (1 ≤ b.ID) && decide (b.ID ≤ 9999)) <;> try rfl
  cases (b.Kind == 0) <;> cases (b.Kind == 1) <;> cases (decide (1 ≤ b.Force) && decide (b.Force ≤ 10000000)) <;> cases (decide (-1 ≤ b.Tested) && decide (b.Tested ≤ 20000000)) <;> cases (decide (0 ≤ b.Measured) && decide (b.Measured ≤ 10000000)) <;> cases (b.Tested != -1) <;> rfl
variable (hN : 1000 < N)
include hN
theorem bfind_eq (l : List Brake) (hl : l.length ≤ 900) (id : Int) : brake_find N l id = some (oi (idxB l id)) := by
  unfold brake_find idxB
  rw [search (fun i => (l.getD i z_Brake).ID == id) (fun i => (i : Int)) () l.length (by omega) (fun i hi => ?_) (by simp)]
  · cases fst (fun i => (l.getD i z_Brake).ID == id) l.length <;> rfl
  · simp only [dlt hi, dge, Bool.and_self, cond_true, Int.toNat_natCast, wrapN (show i < 9223372036854775807 by omega)]
theorem bright_eq (l : List Brake) : brake_Right N l = some (rightB l) := by
  unfold brake_Right rightB
  cases h1 : decide ((l.length : Int) > 8) with
  | true => rfl
  | false =>
    rw [decide_eq_false_iff_not] at h1
    rw [cond_false, cond_false, search (fun i => errB l i != 0) (fun i => errB l i) () l.length (by omega) (fun i hi => ?_) (by simp)]
    · cases fst (fun i => errB l i != 0) l.length <;> rfl
    · have hd : decide (oi (idxB (l.take i) (l.getD i z_Brake).ID) ≥ 0) = dupB l i := by
        unfold idxB dupB
        have e : fst (fun j => ((l.take i).getD j z_Brake).ID == (l.getD i z_Brake).ID) (l.take i).length = fst (fun j => (l.getD j z_Brake).ID == (l.getD i z_Brake).ID) i := by
          rw [List.length_take, Nat.min_eq_left (by omega)]
          exact fst_congr fun j hj => by rw [getD_take _ _ _ _ hj]
        rw [e]
        exact Ch.oi_nonneg _
      simp only [dlt hi, dge, dle (Nat.le_of_lt hi), Bool.and_self, cond_true, Int.toNat_natCast, inB_eq, Option.bind_some, bfind_eq hN (l.take i) (by simp; omega), hd, wrapN (show i < 9223372036854775807 by omega)]
      unfold errB
      cases inB (l.getD i z_Brake) <;> cases dupB l i <;> rfl
structure BrOk (b : Brake) : Prop where
  id : 1 ≤ b.ID ∧ b.ID ≤ 9999
  kind : b.Kind = 0 ∨ b.Kind = 1
  force : 1 ≤ b.Force ∧ b.Force ≤ 10000000
  tested : -1 ≤ b.Tested ∧ b.Tested ≤ 20000000
  meas : 0 ≤ b.Measured ∧ b.Measured ≤ 10000000
  both : b.Tested = -1 → b.Measured = 0
omit hN in
theorem inB_iff (b : Brake) : inB b = true ↔ BrOk b := by
  unfold inB
  simp only [Bool.and_eq_true, Bool.or_eq_true, decide_eq_true_eq, beq_iff_eq, bne_iff_ne]
  constructor
  · rintro ⟨a, b, c, d, e, f⟩
    exact ⟨a, b, c, d, e, fun h => f.resolve_left (by simp [h])⟩
  · intro h
    refine ⟨h.id, h.kind, h.force, h.tested, h.meas, ?_⟩
    by_cases h1 : b.Tested = -1
    · exact .inr (h.both h1)
    · exact .inl h1
omit hN in
theorem rightB_iff (l : List Brake) : rightB l = 0 ↔ l.length ≤ 8 ∧ ∀ i, i < l.length → BrOk (l.getD i z_Brake) ∧ ∀ j, j < i → (l.getD j z_Brake).ID ≠ (l.getD i z_Brake).ID := by
  have hz : ∀ i, errB l i = 0 ↔ BrOk (l.getD i z_Brake) ∧ ∀ j, j < i → (l.getD j z_Brake).ID ≠ (l.getD i z_Brake).ID := fun i => by
    have hd : dupB l i = false ↔ ∀ j, j < i → (l.getD j z_Brake).ID ≠ (l.getD i z_Brake).ID := by
      unfold dupB
      rw [Option.isSome_eq_false_iff, Option.isNone_iff_eq_none, fst_none]
      constructor <;> intro h j hj <;> simpa using h j hj
    unfold errB
    rw [← inB_iff, ← hd]
    cases inB (l.getD i z_Brake) <;> cases dupB l i <;> decide
  unfold rightB
  cases h1 : decide ((l.length : Int) > 8) with
  | true =>
    rw [decide_eq_true_eq] at h1
    rw [cond_true]
    exact ⟨fun h => absurd h (by decide), fun h => by omega⟩
  | false =>
    rw [decide_eq_false_iff_not] at h1
    rw [cond_false]
    cases hf : fst (fun i => errB l i != 0) l.length with
    | some i =>
      obtain ⟨a, b, _⟩ := fst_some.1 hf
      have h4 : errB l i ≠ 0 := by simpa using b
      exact ⟨fun h => absurd h h4, fun h => absurd ((hz i).2 (h.2 i a)) h4⟩
    | none =>
      exact ⟨fun _ => ⟨by omega, fun i hi => (hz i).1 (by simpa using fst_none.1 hf i hi)⟩, fun _ => rfl⟩
theorem btest_eq (l : List Brake) (hl : l.length ≤ 900) (id m t : Int) : brake_Test N l id m t = some (testB l id m t) := by
  unfold brake_Test testB
  rw [bfind_eq hN l hl]
  cases h : idxB l id with
  | none => rfl
  | some i =>
    have hi : i < l.length := (fst_some.1 h).1
    have h2 : decide ((i : Int) < 0) = false := by simp
    have hc : sl_Clone_Brake N l = some l := by
      unfold sl_Clone_Brake
      have : (0 + l.length) * 40 ≤ 140737488355328 := by omega
      simp only [this, decide_true, cond_true]
    simp only [oi, Option.bind_some, Int.toNat_natCast, h2, cond_false, bwithin_eq, dge, dlt hi, Bool.and_self, cond_true, hc, List.length_set, getD_set _ _ _ _ _ hi, if_true, List.set_set, cond_or]
    cases (!(decide (0 ≤ m) && decide (m ≤ 10000000)) || !(decide (0 ≤ t) && decide (t ≤ 20000000))) <;> cases decide (t < (l.getD i z_Brake).Tested) <;> rfl
omit hN in
theorem testB_ok {l : List Brake} (h : rightB l = 0) {id m t : Int} (hz : (testB l id m t).2 = 0) : rightB (testB l id m t).1 = 0 := by
  unfold testB at *
  rw [rightB_iff] at h
  cases hi : idxB l id with
  | none => rw [hi] at hz; cases hz
  | some i =>
    rw [hi] at hz
    simp only at hz ⊢
    have hil : i < l.length := (fst_some.1 hi).1
    cases c1 : (!(decide (0 ≤ m) && decide (m ≤ 10000000)) || !(decide (0 ≤ t) && decide (t ≤ 20000000))) with
    | true => rw [c1] at hz; cases hz
    | false =>
      cases c2 : decide (t < (l.getD i z_Brake).Tested) with
      | true => rw [c1, c2] at hz; cases hz
      | false =>
        simp only [cond_false]
        simp only [Bool.or_eq_false_iff, Bool.not_eq_false', Bool.and_eq_true, decide_eq_true_eq] at c1
        rw [rightB_iff, List.length_set]
        have hg : ∀ j, ((l.set i ⟨(l.getD i z_Brake).ID, (l.getD i z_Brake).Kind, (l.getD i z_Brake).Force, t, m⟩).getD j z_Brake).ID = (l.getD j z_Brake).ID := fun j => by
          rw [getD_set _ _ _ _ _ hil]
          split
          · next e => subst e; rfl
          · rfl
        refine ⟨h.1, fun j hj => ⟨?_, fun k hk => by rw [hg, hg]; exact (h.2 j hj).2 k hk⟩⟩
        rw [getD_set _ _ _ _ _ hil]
        split
        · next e =>
          have q := (h.2 i hil).1
          exact ⟨q.id, q.kind, q.force, ⟨by simp only; omega, by simp only; omega⟩, c1.1, fun h0 => by simp only at h0; omega⟩
        · exact (h.2 j hj).1
omit hN in
theorem nine_eq {n : Int} (h1 : 1 ≤ n) (h2 : n ≤ 10000000) : brake_nineTenths N n = some (nineB n) := by
  unfold brake_nineTenths nineB
  have e1 : n.tmod 10 = n % 10 := Int.tmod_eq_emod_of_nonneg (by omega)
  have e2 : n.tdiv 10 = n / 10 := Int.tdiv_eq_ediv_of_nonneg (by omega)
  have c : decide (n % 10 < 0) = false := by rw [decide_eq_false_iff_not]; omega
  rw [e1, e2, c, cond_false, Option.bind_some, wrap64 (z := n / 10) (by omega) (by omega)]
  simp only
  rw [wrap64 (z := 9 * (n / 10)) (by omega) (by omega), wrap64 (z := 9 * (n % 10)) (by omega) (by omega), wrap64 (z := 9 * (n % 10) + 9) (by omega) (by omega), Int.tdiv_eq_ediv_of_nonneg (by omega), wrap64 (z := (9 * (n % 10) + 9) / 10) (by omega) (by omega), wrap64 (by omega) (by omega)]
omit hN in
theorem bvalid_eq {b : Brake} (h : BrOk b) {t : Int} (h1 : 0 ≤ t) (h2 : t ≤ 20000000) : brake_Valid N b t = some (validB t b) := by
  have a := h.tested
  unfold brake_Valid validB
  rw [nine_eq h.force.1 h.force.2, wrap64 (by omega) (by omega)]
  cases decide (b.Tested ≥ 0) <;> cases decide (t ≥ b.Tested) <;> cases decide (t - b.Tested < 604800) <;> rfl
def frB (k t : Int) (b : Brake) : Int := bif b.Kind == k && validB t b then b.Measured else 0
omit hN in
theorem force_bound {l : List Brake} (h : rightB l = 0) (k t : Int) (i : Nat) (hi : i ≤ l.length) : 0 ≤ ((l.take i).map (frB k t)).sum ∧ ((l.take i).map (frB k t)).sum ≤ 10000000 * i := by
  rw [rightB_iff] at h
  induction i with
  | zero => simp
  | succ i ih =>
    have a := ih (by omega)
    have q := (h.2 i (by omega)).1.meas
    rw [take_getD l i z_Brake (by omega), List.map_append, List.sum_append]
    simp only [List.map_cons, List.map_nil, List.sum_cons, List.sum_nil, Int.add_zero]
    unfold frB
    cases ((l.getD i z_Brake).Kind == k && validB t (l.getD i z_Brake)) with
    | true => simp only [cond_true]; unfold frB at a; omega
    | false => simp only [cond_false]; unfold frB at a; omega
theorem force_eq {l : List Brake} (h : rightB l = 0) (k : Int) {t : Int} (h1 : 0 ≤ t) (h2 : t ≤ 20000000) : brake_Force N l k t = some (forceB l k t) := by
  have h' := (rightB_iff l).1 h
  have hl := h'.1
  unfold brake_Force
  refine (bindT (fun i => (((l.take i).map (frB k t)).sum, (i : Int))) rfl (forceB l k t) l.length (show l.length < N by omega) (fun i hi => ?_) ?_).trans rfl
  · have b := force_bound h k t (i + 1) (by omega)
    have b0 := force_bound h k t i (by omega)
    have e : ((l.take (i + 1)).map (frB k t)).sum = ((l.take i).map (frB k t)).sum + frB k t (l.getD i z_Brake) := by
      rw [take_getD l i z_Brake hi, List.map_append, List.sum_append]
      simp
    simp only [dlt hi, dge, Bool.and_self, cond_true, Int.toNat_natCast, bvalid_eq (N := N) (h'.2 i hi).1 h1 h2, Option.bind_some, cond_and, wrapC (show i < 9223372036854775807 by omega)]
    rw [e] at b ⊢
    unfold frB at b ⊢
    cases hc : ((l.getD i z_Brake).Kind == k && validB t (l.getD i z_Brake)) with
    | true =>
      rw [hc, cond_true] at b
      simp only [cond_true, Option.bind_some]
      rw [wrap64 (by omega) (by omega)]
    | false => simp only [cond_false, Option.bind_some, Int.add_zero]
  · simp only [dnlt, cond_false, List.take_length]
    rfl
theorem enough_eq {l : List Brake} (h : rightB l = 0) (load : Int) {t : Int} (h1 : 0 ≤ t) (h2 : t ≤ 20000000) : brake_Enough N l load t = some (enoughB l load t) := by
  unfold brake_Enough enoughB
  simp only [force_eq hN h _ h1 h2, Option.bind_some]
  cases decide (forceB l 0 t ≥ load) <;> rfl
end
/-! the alarm -/
section
variable {N : Nat}
theorem wwithin_eq (x a b : Int) : weather_within N x a b = some (decide (a ≤ x) && decide (x ≤ b)) := by
  unfold weather_within
  simp only [cond_and, Option.bind_some]
theorem update_eq (a : Alarm) (v t : Int) : weather_Update N a v t = some (updA a v t) := by
  unfold weather_Update updA
  have e : (bif decide (a.Off < 0) then some true else bif decide (a.On < a.Off) then some true else (weather_within N a.Hold 0 86400).bind fun r3 => bif !r3 then some true else bif decide (v < 0) then some true else (weather_within N t 0 20000000).bind fun r4 => bif !r4 then some true else some (decide (a.Low > t))) = some (badA a v t) := by
    simp only [wwithin_eq, Option.bind_some, cond_or]
    rfl
  rw [e, Option.bind_some]
  cases hb : badA a v t with
  | true => rfl
  | false =>
    unfold badA at hb
    simp only [Bool.or_eq_false_iff, Bool.not_eq_false', Bool.and_eq_true, decide_eq_true_eq, decide_eq_false_iff_not] at hb
    simp only [cond_false]
    cases decide (v ≥ a.On) with
    | true => rfl
    | false =>
      cases decide (v ≥ a.Off) with
      | true => rfl
      | false =>
        unfold lowA
        cases hl : decide (a.Low < 0) with
        | true =>
          simp only [cond_true, cond_false, Option.bind_some]
          rw [wrap64 (by omega) (by omega)]
          cases decide (t - t ≥ a.Hold) <;> rfl
        | false =>
          rw [decide_eq_false_iff_not] at hl
          simp only [cond_false, Option.bind_some]
          rw [wrap64 (by omega) (by omega)]
          cases decide (t - a.Low ≥ a.Hold) <;> rfl
theorem updA_ok {a : Alarm} {v t t' : Int} (h : badA a 0 t = false) (ht : t ≤ t') (ht' : t' ≤ 20000000) (hz : (updA a v t').2 = 0) : badA (updA a v t').1 0 t' = false := by
  unfold updA at *
  cases hb : badA a v t' with
  | true => rw [hb] at hz; cases hz
  | false =>
    unfold badA at hb h ⊢
    simp only [Bool.or_eq_false_iff, Bool.not_eq_false', Bool.and_eq_true, decide_eq_true_eq, decide_eq_false_iff_not] at hb h ⊢
    simp only [cond_false]
    cases decide (v ≥ a.On) with
    | true => simp only [cond_true]; omega
    | false =>
      cases decide (v ≥ a.Off) with
      | true => simp only [cond_true, cond_false]; omega
      | false =>
        simp only [cond_false]
        unfold lowA
        cases hl : decide (a.Low < 0) with
        | true => simp only [cond_true]; omega
        | false => simp only [cond_false]; omega
theorem badA_later {a : Alarm} {t t' : Int} (h : badA a 0 t = false) (ht : t ≤ t') (ht' : t' ≤ 20000000) : badA a 0 t' = false := by
  unfold badA at *
  simp only [Bool.or_eq_false_iff, Bool.not_eq_false', Bool.and_eq_true, decide_eq_true_eq, decide_eq_false_iff_not] at *
  omega
end
end Go.Proofs.Ythjmbcnohgaihaa
