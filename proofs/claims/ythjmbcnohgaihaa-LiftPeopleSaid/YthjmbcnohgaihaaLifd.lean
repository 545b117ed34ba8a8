/- The lift: the laws LiftSafe, LiftPeople, LiftStops and LiftCloses in plain words. No condition. -/
import Derived.Test.YthjmbcnohgaihaaLifc
import Derived.Test.YthjmbcnohgaihaaLifa
import Derived.Test.YthjmbcnohgaihaaCmp
namespace Go.Proofs.Ythjmbcnohgaihaa
open Go.Cm Go.Proofs
section
variable {N : Nat} (hN : 1000 < N)
include hN
theorem safe_inv {s : LiftState} (h : Inv s) : lift_Safe N s = some true := by
  unfold lift_Safe
  rw [right_ok hN h.ok, Option.bind_some, Bool.not_true, cond_false]
  cases h1 : (s.Drive.State != 1) with
  | true => rfl
  | false =>
    rw [bne_eq_false_iff_eq] at h1
    have g := h.gd.run h1
    have m0 : (s.Mode == 0) = false := by rw [beq_eq_false_iff_ne]; exact g.2
    rw [cond_false, may_eq hN h.ok, Option.bind_some, g.1, m0]
    simp only [bne_self_eq_false, cond_false, Option.bind_some, cond_or]
    have : ((s.Mode != 2) || decide (s.Drive.Target ≤ 1000)) = true := by
      by_cases h2 : s.Mode = 2
      · rw [Bool.or_eq_true]; exact .inr (by rw [decide_eq_true_eq]; exact h.tg h1 h2)
      · rw [Bool.or_eq_true]; exact .inl (by rw [bne_iff_ne]; exact h2)
    rw [this]
theorem people17_eq {b : Int} {s : LiftState} (h : OkB b s) : r17_People N s.Line = some (peopleS s.Line) := by
  obtain ⟨_, _, _, f4, f5, _⟩ := id h.fit
  exact people_eq hN h.line f5
theorem length18_eq {q : Queue} (h : QOk q) : r18_Length N q = some (qlen q) := by
  have hl := h.len
  have hs := h.sing
  unfold r18_Length qlen
  refine (bindT (fun i => (q.Singles + (q.Groups.take i).sum, (i : Int))) (by simp) (q.Singles + q.Groups.sum) q.Groups.length (show q.Groups.length < N by omega) (fun i hi => ?_) ?_).trans rfl
  · have hb := sum_le (b := 16) (l := q.Groups) (fun j hj => by have := h.grp _ (getD_mem q.Groups j 0 hj); omega) (i + 1) (show i + 1 ≤ q.Groups.length by omega)
    have e := sum_step0 q.Groups i hi
    simp only [dlt hi, dge, Bool.and_self, cond_true, Int.toNat_natCast, wrapC (show i < 9223372036854775807 by omega)]
    rw [e] at hb ⊢
    rw [wrap64 (by omega) (by omega), Int.add_assoc]
  · simp only [dnlt, cond_false, List.take_length]
end
theorem law_begin {x : Make} {l : List LiftEvent} {f : LiftState × Int → Option Bool} (hf : ∀ s, Inv s → s.Up = 0 → qlen s.Queue = 0 → l.length ≤ 60 → f (s, 0) = some true) :
    ((l20_made 2000 x).bind fun (r3 : LiftState × Int) =>
        ((l20_small 2000 x).bind fun (r4 : Bool) =>
              bif !r4 then some true
              else bif decide ((↑l.length : Int) > (60 : Int)) then some true else some (r3.snd != (0 : Int))).bind
          fun (r5 : Bool) =>
          bif r5 then some true
          else f r3) = some true := by
  obtain ⟨r, e, hr⟩ := new_eq (N := 2000) (by decide) x
  obtain ⟨b, e2⟩ := small_eq (N := 2000) x
  rw [e, Option.bind_some, e2, Option.bind_some]
  cases b with
  | false => rfl
  | true =>
    simp only [Bool.not_true, cond_false, cond_or, Option.bind_some]
    cases h : (decide ((l.length : Int) > 60) || r.2 != 0) with
    | true => rfl
    | false =>
      simp only [Bool.or_eq_false_iff, decide_eq_false_iff_not, bne_eq_false_iff_eq] at h
      obtain ⟨a, i⟩ := hr h.2
      rw [cond_false]
      obtain ⟨s, z⟩ := r
      obtain ⟨_, rfl⟩ := h
      refine hf s i ?_ ?_ (by omega)
      · simp only at a; rw [a]; rfl
      · simp only at a; rw [a]; rfl
theorem t_LiftSafe : AllW (fun y => y = some true) [TI.t_Make, TI.l_LiftEvent] (l20_LiftSafe 2000) := fun (x : Make) _ (l : List LiftEvent) _ => by
  show l20_LiftSafe 2000 x l = some true
  have hN : 1000 < 2000 := by omega
  unfold l20_LiftSafe
  rw [alive_ok]
  simp only [Option.bind_some, Bool.not_true, cond_false]
  refine law_begin fun s h _ _ hl => ?_
  have hi : ∀ i, Inv ((l.take i).foldl aft s) := fun i => fold_inv h _
  refine (bindT (fun i => ((i : Int), (l.take i).foldl aft s)) rfl (Sum.inl (l.foldl aft s)) l.length (show l.length < 2000 by omega) (fun i hil => ?_) ?_).trans ?_
  · have a := hi i
    have a' := hi (i + 1)
    have e1 : (l.take (i + 1)).foldl aft s = aft ((l.take i).foldl aft s) (l.getD i z_LiftEvent) := by
      rw [take_getD l i z_LiftEvent hil, List.foldl_append]
      rfl
    have d1 : decide ((i : Int) ≤ ((i + 1 : Nat) : Int)) = true := by rw [decide_eq_true_eq]; omega
    simp only [dlt hil, dge, wrapC (show i < 9223372036854775807 by omega), d1, dle (show i + 1 ≤ l.length by omega), Bool.and_self, cond_true, Int.toNat_natCast, one_eq hN a l (by omega) hil, Option.bind_some, ← e1, right_ok hN a'.ok, safe_inv hN a', Bool.not_true, cond_false, may_eq hN a'.ok]
    generalize (l.take (i + 1)).foldl aft s = q at a' ⊢
    cases h1 : (q.Drive.State == 1) with
    | false => rfl
    | true =>
      rw [beq_iff_eq] at h1
      have g := a'.gd.run h1
      have m0 : (q.Mode == 0) = false := by rw [beq_eq_false_iff_ne]; exact g.2
      rw [g.1, m0]
      rfl
  · simp only [dnlt, cond_false, List.take_length]
  · rfl
/-! persons -/
theorem second2_people {b : Int} {s : LiftState} (h : OkB b s) : qlen (second2 s).Queue + (second2 s).Up = qlen s.Queue + s.Up ∧ (s.Mode ≠ 1 → (second2 s).Up = s.Up) := by
  obtain ⟨_, _, _, f4, f5, _⟩ := id h.fit
  obtain ⟨q1, q2, q3, q4⟩ := seat_ok h.que f4 f5
  unfold second2
  cases hc : (decide (passS s ≥ 0) && s.Mode == 1) with
  | false => exact ⟨rfl, fun _ => rfl⟩
  | true =>
    rw [Bool.and_eq_true, beq_iff_eq] at hc
    refine ⟨?_, fun h => absurd hc.2 h⟩
    show qlen (seatS s.Queue s.Lift.Seats).1 + (s.Up + (seatS s.Queue s.Lift.Seats).2) = _
    omega
theorem tickN_people {s : LiftState} (h : Ok s) (k : Nat) (ht : s.Time + k ≤ 20000000) : qlen (tickN s k).Queue + (tickN s k).Up = qlen s.Queue + s.Up := by
  induction k with
  | zero => rfl
  | succ k ih =>
    have a := ih (by omega)
    have b := tickN_ok h k (by omega)
    obtain ⟨_, _, _, g1, g2, _⟩ := guard_keep (second2 (tickN s k))
    have c := (second2_people b).1
    show qlen (guardS (second2 (tickN s k))).Queue + (guardS (second2 (tickN s k))).Up = _
    rw [g1, g2, c, a]
theorem did_people {s s' : LiftState} {e : LiftEvent} (h : Ok s) (d : Did s e s') (h3 : e.Kind ≠ 3) (h17 : e.Kind ≠ 17) : qlen s'.Queue + s'.Up = qlen s.Queue + s.Up + (bif e.Kind == 16 then e.N else 0) ∧ (e.Kind = 16 → e.N ≤ 1000 ∧ 1 ≤ e.N) := by
  have no : ∀ n : Int, e.Kind = n → n ≠ 16 → (bif e.Kind == 16 then e.N else 0) = 0 := fun n hn hne => by
    have : (e.Kind == 16) = false := by rw [beq_eq_false_iff_ne]; omega
    rw [this]; rfl
  cases d with
  | tick hk hn ht hu => rw [no 1 hk (by decide), tickN_people h _ (by omega)]; exact ⟨by omega, by omega⟩
  | close hk hm => exact absurd hk h3
  | rescue hk hm hs ht => exact absurd hk h17
  | rescueH hk hm hs => exact absurd hk h17
  | join hk hm hz =>
    have := (join_ok h.que hz).2
    have c : (e.Kind == 16) = true := by rw [beq_iff_eq]; exact hk
    rw [c]
    refine ⟨?_, fun _ => ?_⟩
    · show qlen (joinS s.Queue e.N).1 + s.Up = qlen s.Queue + s.Up + e.N
      omega
    · unfold joinS at hz
      cases c1 : (decide (e.N < 1) || decide (e.N > 16)) with
      | true => rw [c1] at hz; cases hz
      | false => simp only [Bool.or_eq_false_iff, decide_eq_false_iff_not] at c1; omega
  | single hk hm hz =>
    have := (single_ok h.que hz).2
    have c : (e.Kind == 16) = true := by rw [beq_iff_eq]; exact hk
    rw [c]
    refine ⟨?_, fun _ => ?_⟩
    · show qlen (singleS s.Queue e.N).1 + s.Up = qlen s.Queue + s.Up + e.N
      omega
    · unfold singleS at hz
      cases c1 : (decide (e.N < 1) || decide (e.N > 1000)) with
      | true => rw [c1] at hz; cases hz
      | false => simp only [Bool.or_eq_false_iff, decide_eq_false_iff_not] at c1; omega
  | chain hk c hc => 
    have n16 : (e.Kind == 16) = false := by rw [beq_eq_false_iff_ne]; omega
    rw [n16]
    exact ⟨(Int.add_zero _).symm, by omega⟩
  | «open» hk hm hy => rw [no _ hk (by decide)]; exact ⟨(Int.add_zero _).symm, by omega⟩
  | bring hk hm i hi hn ho => rw [no _ hk (by decide)]; exact ⟨(Int.add_zero _).symm, by omega⟩
  | rescued hk hm => rw [no _ hk (by decide)]; exact ⟨(Int.add_zero _).symm, by omega⟩
  | start hk hm hn hz => rw [no _ hk (by decide)]; exact ⟨(Int.add_zero _).symm, by omega⟩
  | stop hk => rw [no _ hk (by decide)]; exact ⟨(Int.add_zero _).symm, by omega⟩
  | emerge hk => rw [no _ hk (by decide)]; exact ⟨(Int.add_zero _).symm, by omega⟩
  | reset hk hz => rw [no _ hk (by decide)]; exact ⟨(Int.add_zero _).symm, by omega⟩
  | test hk hz => rw [no _ hk (by decide)]; exact ⟨(Int.add_zero _).symm, by omega⟩
  | gust hk hz => rw [no _ hk (by decide)]; exact ⟨(Int.add_zero _).symm, by omega⟩
  | sign hk hz => rw [no _ hk (by decide)]; exact ⟨(Int.add_zero _).symm, by omega⟩
theorem do_people {s : LiftState} {e : LiftEvent} (h : Ok s) (hz : (doS s e).2 = 0) (h3 : e.Kind ≠ 3) (h17 : e.Kind ≠ 17) : qlen (doS s e).1.Queue + (doS s e).1.Up = qlen s.Queue + s.Up + (bif e.Kind == 16 then e.N else 0) ∧ (e.Kind = 16 → e.N ≤ 1000 ∧ 1 ≤ e.N) := by
  obtain ⟨s', d, ⟨hk, e1⟩ | ⟨hk, e1⟩⟩ := do_split hz
  · rw [e1]; exact did_people h d h3 h17
  · obtain ⟨_, _, _, g1, g2, _⟩ := guard_keep s'
    rw [e1, g1, g2]
    exact did_people h d h3 h17
/-- the state of the loop of LiftPeople -/
def peo (p : Int × LiftState) (e : LiftEvent) : Int × LiftState := bif (e.Kind == 3) || (e.Kind == 17) then p else bif (doS p.2 e).2 != 0 then p else (p.1 + (bif e.Kind == 16 then e.N else 0), (doS p.2 e).1)
theorem peo_ok (p : Int × LiftState) (e : LiftEvent) (h : Inv p.2) (hq : qlen p.2.Queue + p.2.Up = p.1) : Inv (peo p e).2 ∧ qlen (peo p e).2.Queue + (peo p e).2.Up = (peo p e).1 := by
  unfold peo
  cases h1 : (e.Kind == 3 || e.Kind == 17) with
  | true => exact ⟨h, hq⟩
  | false =>
    simp only [Bool.or_eq_false_iff, beq_eq_false_iff_ne] at h1
    cases h2 : ((doS p.2 e).2 != 0) with
    | true => exact ⟨h, hq⟩
    | false =>
      rw [bne_eq_false_iff_eq] at h2
      have := do_people h.ok h2 h1.1 h1.2
      refine ⟨inv_do h h2, ?_⟩
      show qlen (doS p.2 e).1.Queue + (doS p.2 e).1.Up = p.1 + _
      rw [this.1, hq]
theorem peo_fold (l : List LiftEvent) (p : Int × LiftState) (h : Inv p.2) (hq : qlen p.2.Queue + p.2.Up = p.1) : Inv (l.foldl peo p).2 ∧ qlen (l.foldl peo p).2.Queue + (l.foldl peo p).2.Up = (l.foldl peo p).1 := by
  induction l generalizing p with
  | nil => exact ⟨h, hq⟩
  | cons e l ih =>
    have := peo_ok p e h hq
    exact ih _ this.1 this.2
theorem qlen_bound {q : Queue} (h : QOk q) : 0 ≤ qlen q ∧ qlen q ≤ 13200 := by
  have a := sum_ge h.grp
  have b := h.sing
  have c := h.len
  unfold qlen
  omega
theorem t_LiftPeople : AllW (fun y => y = some true) [TI.t_Make, TI.l_LiftEvent] (l20_LiftPeople 2000) := fun (x : Make) _ (l : List LiftEvent) _ => by
  show l20_LiftPeople 2000 x l = some true
  have hN : 1000 < 2000 := by omega
  unfold l20_LiftPeople
  rw [alive_ok]
  simp only [Option.bind_some, Bool.not_true, cond_false]
  refine law_begin fun s h hu hq hl => ?_
  have hi : ∀ i, Inv ((l.take i).foldl peo (0, s)).2 ∧ qlen ((l.take i).foldl peo (0, s)).2.Queue + ((l.take i).foldl peo (0, s)).2.Up = ((l.take i).foldl peo (0, s)).1 := fun i => peo_fold _ _ h (by simp only [hu, hq]; rfl)
  refine (bindT (fun i => (((l.take i).foldl peo (0, s)).1, (i : Int), ((l.take i).foldl peo (0, s)).2)) rfl (Sum.inl (l.foldl peo (0, s)).2) l.length (show l.length < 2000 by omega) (fun i hil => ?_) ?_).trans ?_
  · obtain ⟨a, aq⟩ := hi i
    have e1 : (l.take (i + 1)).foldl peo (0, s) = peo ((l.take i).foldl peo (0, s)) (l.getD i z_LiftEvent) := by
      rw [take_getD l i z_LiftEvent hil, List.foldl_append]
      rfl
    rw [e1]
    generalize (l.take i).foldl peo (0, s) = p at a aq ⊢
    obtain ⟨j, q⟩ := p
    simp only at a aq ⊢
    simp only [dlt hil, dge, wrapC (show i < 9223372036854775807 by omega), Bool.and_self, cond_true, Int.toNat_natCast, Option.bind_some, cond_or, do_eq hN a.ok]
    generalize l.getD i z_LiftEvent = e
    unfold peo
    cases h1 : (e.Kind == 3 || e.Kind == 17) with
    | true => rfl
    | false =>
      simp only [cond_false]
      have h1' := h1
      simp only [Bool.or_eq_false_iff, beq_eq_false_iff_ne] at h1'
      cases h2 : ((doS q e).2 != 0) with
      | true => rfl
      | false =>
        rw [bne_eq_false_iff_eq] at h2
        have ok := (inv_do a h2).ok
        have dp := do_people a.ok h2 h1'.1 h1'.2
        have qb := qlen_bound ok.que
        have qb0 := qlen_bound a.ok.que
        have ub := ok.up
        have ub0 := a.ok.up
        have ob := ok.off
        have pp := ok.ppl
        have ej : (bif e.Kind == 16 then some (IntKind.i64.wrap (j + e.N)) else some j) = some (j + (bif e.Kind == 16 then e.N else 0)) := by
          cases hk : (e.Kind == 16) with
          | true =>
            rw [beq_iff_eq] at hk
            have := dp.2 hk
            simp only [cond_true]
            rw [wrap64 (by omega) (by omega)]
          | false => simp only [cond_false, Int.add_zero]
        simp only [cond_false, ej, Option.bind_some, length18_eq hN ok.que, people17_eq hN ok, wrap64 (z := qlen (doS q e).1.Queue + (doS q e).1.Up) (by omega) (by omega), wrap64 (z := (doS q e).1.Up - (doS q e).1.Off) (by omega) (by omega)]
        have c1 : (qlen (doS q e).1.Queue + (doS q e).1.Up != j + (bif e.Kind == 16 then e.N else 0)) = false := by rw [bne_eq_false_iff_eq, dp.1, aq]
        have c2 : ((doS q e).1.Up - (doS q e).1.Off != peopleS (doS q e).1.Line) = false := by rw [bne_eq_false_iff_eq, pp]
        rw [c1, c2]
        rfl
  · simp only [dnlt, cond_false, List.take_length]
  · rfl
/-! stops -/
theorem up_off {b : Int} {s : LiftState} (h : OkB b s) : OkB s.Up s := by
  have p := people_nonneg h
  have q := h.ppl
  have o := h.off
  exact ⟨h.new, h.loop, h.spc, h.cnt, h.time, h.fit, h.drv, h.line, h.que, h.brk, h.chn, h.chk, h.mode, ⟨h.up.1, Int.le_refl _⟩, ⟨o.1, by omega⟩, h.ppl⟩
theorem tickN_up {s : LiftState} (h : Ok s) (k : Nat) (ht : s.Time + k ≤ 20000000) : (tickN s k).Up ≤ s.Up + 16 * k := (tickN_ok (up_off h) k ht).up.2
theorem did_up {s s' : LiftState} {e : LiftEvent} (h : Ok s) (d : Did s e s') : s'.Up ≤ s.Up + 9600 := by
  have no : s.Up ≤ s.Up + 9600 := by omega
  cases d with
  | tick hk hn ht hu =>
    have := tickN_up h e.N.toNat (by omega)
    omega
  | _ => exact no
theorem aft_up {s : LiftState} (h : Inv s) (e : LiftEvent) : (aft s e).Up ≤ s.Up + 9600 := by
  unfold aft
  cases hz : (doS s e).2 == 0 with
  | false => rw [cond_false]; omega
  | true =>
    rw [beq_iff_eq] at hz
    rw [cond_true]
    obtain ⟨s', d, ⟨hk, e1⟩ | ⟨hk, e1⟩⟩ := do_split hz
    · rw [e1]; exact did_up h.ok d
    · obtain ⟨_, _, _, _, g2, _⟩ := guard_keep s'
      rw [e1, g2]
      exact did_up h.ok d
theorem fold_up {s : LiftState} (h : Inv s) (l : List LiftEvent) : (l.foldl aft s).Up ≤ s.Up + 9600 * l.length := by
  induction l generalizing s with
  | nil => simp
  | cons e l ih =>
    have a := aft_up h e
    have b := ih (aft_inv h e)
    simp only [List.foldl_cons, List.length_cons]
    omega
theorem step_emer {m : Motor} (hm : Mot m) {d : Drive} (hd : d.State = 3) (h0 : 0 ≤ d.Speed) : (stepD m d).State = 3 ∧ (stepD m d).Speed = max (d.Speed - m.Stop) 0 := by
  have e1 : (d.State == 1) = false := by rw [hd]; rfl
  have e2 : (d.State == 2) = false := by rw [hd]; rfl
  have e3 : (d.State == 3) = true := by rw [hd]; rfl
  unfold stepD nextD
  rw [e1, e2, e3]
  exact ⟨hd, rfl⟩
theorem guard_emer {s : LiftState} (h : s.Drive.State = 3) : (guardS s).Drive = s.Drive := by
  unfold guardS guard2
  have : ((guard1 s).Drive.State != 1) = true := by show (s.Drive.State != 1) = true; rw [h]; rfl
  rw [this]
  rfl
theorem tickN_emer {s : LiftState} (h : Ok s) (hs : s.Drive.State = 3) (k : Nat) (ht : s.Time + k ≤ 20000000) : (tickN s k).Drive.State = 3 ∧ (tickN s k).Motor = s.Motor ∧ 0 ≤ (tickN s k).Drive.Speed ∧ ((tickN s k).Drive.Speed = 0 ∨ (tickN s k).Drive.Speed + 50 * k ≤ s.Drive.Speed) := by
  induction k with
  | zero => exact ⟨hs, rfl, h.drv.speed.1, .inr (by show s.Drive.Speed + 50 * ((0 : Nat) : Int) ≤ _; omega)⟩
  | succ k ih =>
    obtain ⟨a, b, c0, c⟩ := ih (by omega)
    have ok := tickN_ok h k (by omega)
    have m := ok.fit.1
    have st := m.stop
    have dn := m.down
    obtain ⟨k1, _, k3, _⟩ := second2_keep (tickN s k)
    have se := step_emer m a c0
    have g : (second2 (tickN s k)).Drive.State = 3 := by rw [k1]; exact se.1
    have gd := guard_emer g
    have e : (tickN s (k + 1)).Drive = stepD (tickN s k).Motor (tickN s k).Drive := by
      show (guardS (second2 (tickN s k))).Drive = _
      rw [gd, k1]
    refine ⟨by rw [e]; exact se.1, ?_, by rw [e, se.2]; omega, ?_⟩
    · show (guardS (second2 (tickN s k))).Motor = _
      rw [(guard_keep _).2.1, k3, b]
    · rw [e, se.2]
      omega
theorem break_fault {c : Chain} (v : Ch.Val c) {i : Nat} (hi : i < c.Contacts.length) (hu : (c.Contacts.getD i z_Contact).Until = 0) {t : Int} (ht : 0 ≤ t) : ((Ch.faultsS (Ch.at1 c i Ch.breakO) t).length : Int) > 0 := by
  have hm : Ch.breakO (c.Contacts.getD i z_Contact) ∈ (Ch.at1 c i Ch.breakO).Contacts.filter (Ch.faultO t) := by
    rw [List.mem_filter]
    refine ⟨?_, ?_⟩
    · have e := Ch.at1_getD hi Ch.breakO i
      rw [if_pos rfl] at e
      rw [← e]
      exact getD_mem _ _ _ (by simp [Ch.at1, hi])
    · unfold Ch.faultO
      show ((true || !false) && decide (t ≥ (c.Contacts.getD i z_Contact).Until)) = true
      rw [hu]
      simp [ht]
  unfold Ch.faultsS
  rw [List.length_map]
  have := List.length_pos_of_mem hm
  omega
theorem tick_emer {t : LiftState} (ok : Ok t) (hu : t.Up ≤ 600000) (st : t.Drive.State = 3) (n : Int) (h1 : 240 ≤ n) (h2 : n ≤ 600) : ∃ r, doS t ⟨1, n, 0, 0⟩ = r ∧ ((r = (z_LiftState, 2) ∧ t.Time + n > 20000000) ∨ (r.2 = 0 ∧ r.1.Drive.Speed = 0 ∧ r.1.Drive.State = 3)) := by
  refine ⟨_, rfl, ?_⟩
  unfold doS
  have e6 : actS t ⟨1, n, 0, 0⟩ = tickS t n := rfl
  rw [e6]
  unfold tickS
  have d1 : decide (n < 1) = false := by rw [decide_eq_false_iff_not]; omega
  have d2 : decide (n > 600) = false := by rw [decide_eq_false_iff_not]; omega
  rw [d1, d2, Bool.false_or, Bool.false_or]
  cases c1 : decide (t.Time + n > 20000000) with
  | true => rw [decide_eq_true_eq] at c1; exact .inl ⟨rfl, c1⟩
  | false =>
    rw [decide_eq_false_iff_not] at c1
    have a := tickN_ok ok n.toNat (by omega)
    have b := tickN_up ok n.toNat (by omega)
    have c := people_nonneg a
    have d := a.ppl
    have f1 : decide ((tickN t n.toNat).Up > 1125899906842624) = false := by rw [decide_eq_false_iff_not]; omega
    have f2 : decide ((tickN t n.toNat).Off > 1125899906842624) = false := by rw [decide_eq_false_iff_not]; omega
    obtain ⟨z1, z2, z3, z4⟩ := tickN_emer ok st n.toNat (by omega)
    have sp := ok.drv.speed
    have mm := ok.fit.1.max
    have z5 : (tickN t n.toNat).Drive.Speed = 0 := by omega
    rw [f1, f2]
    exact .inr ⟨rfl, z5, z1⟩
theorem t_LiftStops : AllW (fun y => y = some true) [TI.t_Make, TI.l_LiftEvent, TI.t_i64] (l20_LiftStops 2000) := fun (x : Make) _ (l : List LiftEvent) _ (id : Int) _ => by
  show l20_LiftStops 2000 x l id = some true
  have hN : 1000 < 2000 := by omega
  unfold l20_LiftStops
  rw [alive_ok]
  simp only [Option.bind_some, Bool.not_true, cond_false]
  refine law_begin fun s0 h0 hu0 _ hl => ?_
  simp only [after_eq hN h0 l (show l.length ≤ 900 by omega), Option.bind_some]
  have h := fold_inv h0 l
  have hup := fold_up h0 l
  generalize l.foldl aft s0 = s at h hup ⊢
  cases h1 : (s.Drive.State != 1) with
  | true => rfl
  | false =>
    rw [bne_eq_false_iff_eq] at h1
    rw [cond_false]
    have cl := h.ok.chn.len
    rw [search (fun i => (s.Chain.Contacts.getD i z_Contact).ID == id && (s.Chain.Contacts.getD i z_Contact).Until != 0) (fun _ => true) () s.Chain.Contacts.length (by omega) (fun i hi => ?_) (by simp)]
    · cases hf : fst (fun i => (s.Chain.Contacts.getD i z_Contact).ID == id && (s.Chain.Contacts.getD i z_Contact).Until != 0) s.Chain.Contacts.length with
      | some i => rfl
      | none =>
        rw [fst_none] at hf
        simp only [sres, Option.bind_some, Sum.elim_inl, do_eq hN h.ok]
        have ea : actS s ⟨8, id, 0, 0⟩ = onC s (Ch.breakS s.Chain id) := rfl
        cases hx : Ch.idx s.Chain id with
        | none =>
          have e2 : doS s ⟨8, id, 0, 0⟩ = (z_LiftState, 8) := by
            unfold doS
            rw [ea]
            unfold Ch.breakS
            rw [hx]
            rfl
          rw [e2]
          rfl
        | some i =>
          obtain ⟨hi, hid⟩ := Ch.idx_some hx
          have hun : (s.Chain.Contacts.getD i z_Contact).Until = 0 := by
            have := hf i hi
            rw [hid] at this
            simpa using this
          have hg := h.gd.run h1
          have tm := h.ok.time
          have bf := break_fault h.ok.chn hi hun (t := s.Time) tm.1
          have e2 : doS s ⟨8, id, 0, 0⟩ = (guardS (setChain s (Ch.at1 s.Chain i Ch.breakO)), 0) := by
            unfold doS
            rw [ea]
            unfold Ch.breakS
            rw [hx]
            rfl
          have vc : Ch.Val (Ch.at1 s.Chain i Ch.breakO) := Ch.Did.val h.ok.chn (Ch.Did.break (x := ⟨0, id, 0, 0⟩) i rfl hx)
          have hgs : guardS (setChain s (Ch.at1 s.Chain i Ch.breakO)) = setDrive (setChain s (Ch.expS (Ch.at1 s.Chain i Ch.breakO) s.Time)) (emerD s.Drive) := by
            have em : (s.Mode == 3 && peopleS s.Line == 0) = false := by
              rw [Bool.and_eq_false_iff, beq_eq_false_iff_ne, beq_eq_false_iff_ne]
              by_cases hm : s.Mode = 3
              · exact .inr (h.gd.last hm)
              · exact .inl hm
            have e3 : guard1 (setChain s (Ch.at1 s.Chain i Ch.breakO)) = setChain s (Ch.expS (Ch.at1 s.Chain i Ch.breakO) s.Time) := by
              unfold guard1
              show LiftState.mk s.Lift s.Motor s.Drive s.Brakes _ s.Wind s.Line s.Queue s.Checks s.Time (bif s.Mode == 3 && peopleS s.Line == 0 then 0 else s.Mode) s.Up s.Off = _
              rw [em]
              rfl
            unfold guardS
            rw [e3]
            unfold guard2
            have a1 : ((setChain s (Ch.expS (Ch.at1 s.Chain i Ch.breakO) s.Time)).Drive.State != 1) = false := by rw [bne_eq_false_iff_eq]; exact h1
            have a2 : ((setChain s (Ch.expS (Ch.at1 s.Chain i Ch.breakO) s.Time)).Mode == 0) = false := by rw [beq_eq_false_iff_ne]; exact hg.2
            have a3 : mayS (setChain s (Ch.expS (Ch.at1 s.Chain i Ch.breakO) s.Time)) = 13 := by
              unfold mayS
              show (bif decide (((Ch.faultsS (Ch.expS (Ch.at1 s.Chain i Ch.breakO) s.Time) s.Time).length : Int) > 0) then (13 : Int) else _) = 13
              rw [Ch.faults_expire vc, decide_eq_true bf]
              rfl
            rw [a1, a2, a3]
            rfl
          have ok1 : Ok (doS s ⟨8, id, 0, 0⟩).1 := do_ok h.ok (by rw [e2])
          rw [e2] at ok1
          simp only [e2, bne_self_eq_false, cond_false]
          simp only [hgs] at ok1 ⊢
          have up1 : (setDrive (setChain s (Ch.expS (Ch.at1 s.Chain i Ch.breakO) s.Time)) (emerD s.Drive)).Up = s.Up := rfl
          have tm1 : (setDrive (setChain s (Ch.expS (Ch.at1 s.Chain i Ch.breakO) s.Time)) (emerD s.Drive)).Time = s.Time := rfl
          have st1 : (setDrive (setChain s (Ch.expS (Ch.at1 s.Chain i Ch.breakO) s.Time)) (emerD s.Drive)).Drive.State = 3 := rfl
          have tg1 : (setDrive (setChain s (Ch.expS (Ch.at1 s.Chain i Ch.breakO) s.Time)) (emerD s.Drive)).Drive.Target = 0 := rfl
          generalize setDrive (setChain s (Ch.expS (Ch.at1 s.Chain i Ch.breakO) s.Time)) (emerD s.Drive) = t at ok1 up1 tm1 st1 tg1 ⊢
          simp only [st1, tg1, bne_self_eq_false, cond_false, Option.bind_some, do_eq hN ok1]
          obtain ⟨r, er, hr⟩ := tick_emer ok1 (show t.Up ≤ 600000 by omega) st1 300 (by decide) (by decide)
          rw [er]
          rcases hr with ⟨rfl, hr⟩ | ⟨r1, r2, r3⟩
          · have : decide (t.Time > 19999700) = true := by rw [decide_eq_true_eq]; omega
            simp only [this]
            rfl
          · simp only [r1, r2, r3, bne_self_eq_false, cond_false, beq_self_eq_true, cond_true, Option.bind_some]
    · simp only [dlt hi, dge, Bool.and_self, cond_true, Int.toNat_natCast, wrapN (show i < 9223372036854775807 by omega), cond_and, Option.bind_some]
/-! closes -/
theorem tickN_closed {s : LiftState} (h : Ok s) (hm : s.Mode ≠ 1) (k : Nat) (ht : s.Time + k ≤ 20000000) : (tickN s k).Up = s.Up ∧ (tickN s k).Mode ≠ 1 := by
  induction k with
  | zero => exact ⟨rfl, hm⟩
  | succ k ih =>
    obtain ⟨a, b⟩ := ih (by omega)
    have ok := tickN_ok h k (by omega)
    obtain ⟨_, _, _, _, g2, _, _, g3⟩ := guard_keep (second2 (tickN s k))
    obtain ⟨_, s2, _⟩ := second2_keep (tickN s k)
    refine ⟨?_, ?_⟩
    · show (guardS (second2 (tickN s k))).Up = _
      rw [g2, (second2_people ok).2 b, a]
    · show (guardS (second2 (tickN s k))).Mode ≠ 1
      rcases g3 with g3 | g3
      · rw [g3, s2]; exact b
      · omega
theorem did_closed {s s' : LiftState} {e : LiftEvent} (h : Ok s) (hm : s.Mode = 3) (d : Did s e s') : s'.Up = s.Up := by
  cases d with
  | tick hk hn ht hu => exact (tickN_closed h (by omega) _ (by omega)).1
  | _ => rfl
theorem aft_closed {s : LiftState} (h : Inv s) (hm : s.Mode = 3) (e : LiftEvent) : (aft s e).Up = s.Up := by
  unfold aft
  cases hz : (doS s e).2 == 0 with
  | false => rfl
  | true =>
    rw [beq_iff_eq] at hz
    rw [cond_true]
    obtain ⟨s', d, ⟨hk, e1⟩ | ⟨hk, e1⟩⟩ := do_split hz
    · rw [e1]; exact did_closed h.ok hm d
    · obtain ⟨_, _, _, _, g2, _⟩ := guard_keep s'
      rw [e1, g2]
      exact did_closed h.ok hm d
theorem t_LiftCloses : AllW (fun y => y = some true) [TI.t_Make, TI.l_LiftEvent, TI.l_LiftEvent] (l20_LiftCloses 2000) := fun (x : Make) _ (l : List LiftEvent) _ (more : List LiftEvent) _ => by
  show l20_LiftCloses 2000 x l more = some true
  have hN : 1000 < 2000 := by omega
  unfold l20_LiftCloses
  rw [alive_ok]
  simp only [Option.bind_some, Bool.not_true, cond_false]
  obtain ⟨r, e, hr⟩ := new_eq (N := 2000) (by decide) x
  obtain ⟨b, e2⟩ := small_eq (N := 2000) x
  rw [e, Option.bind_some, e2, Option.bind_some]
  cases b with
  | false => rfl
  | true =>
    simp only [Bool.not_true, cond_false, cond_or, Option.bind_some]
    cases hc : (decide ((l.length : Int) > 60) || (decide ((more.length : Int) > 60) || r.2 != 0)) with
    | true => rfl
    | false =>
      simp only [Bool.or_eq_false_iff, decide_eq_false_iff_not, bne_eq_false_iff_eq] at hc
      obtain ⟨_, h0⟩ := hr hc.2.2
      simp only [cond_false, after_eq hN h0 l (show l.length ≤ 900 by omega), Option.bind_some]
      have h := fold_inv h0 l
      generalize l.foldl aft r.1 = s at h ⊢
      simp only [do_eq hN h.ok, Option.bind_some]
      have ea : actS s ⟨3, 0, 0, 0⟩ = bif s.Mode != 1 then (s, 10) else (setMode (setQueue s z_Queue) 3, 0) := rfl
      cases hm : (s.Mode != 1) with
      | true =>
        have e3 : doS s ⟨3, 0, 0, 0⟩ = (z_LiftState, 10) := by unfold doS; rw [ea, hm]; rfl
        rw [e3]
        rfl
      | false =>
        have e3 : doS s ⟨3, 0, 0, 0⟩ = (guardS (setMode (setQueue s z_Queue) 3), 0) := by unfold doS; rw [ea, hm]; rfl
        have h1 := inv_do (e := ⟨3, 0, 0, 0⟩) h (by rw [e3])
        rw [e3] at h1 ⊢
        simp only [bne_self_eq_false, cond_false]
        have hup : (guardS (setMode (setQueue s z_Queue) 3)).Up = s.Up := (guard_keep _).2.2.2.2.1
        simp only at h1
        generalize guardS (setMode (setQueue s z_Queue) 3) = t at h1 hup ⊢
        have ml : more.length ≤ 60 := by omega
        refine bind_inv (fun i (st : Int × LiftState) => st.1 = i ∧ Inv st.2 ∧ st.2.Up = s.Up) (fun q => Sum.elim (fun _ => True) (fun p : Bool × LiftState => p.1 = true) q) more.length ⟨rfl, h1, hup⟩ (fun i st hi hI => ?_) (fun st hI => ?_) (by omega) (fun q hq => ?_)
        · obtain ⟨i', q⟩ := st
          obtain ⟨a1, a2, a3⟩ := hI
          simp only at a1 a2 a3
          subst a1
          simp only [dlt hi, cond_true]
          cases hq : (q.Mode != 3) with
          | true => exact .inr ⟨_, rfl, rfl⟩
          | false =>
            rw [bne_eq_false_iff_eq] at hq
            have d1 : decide ((i : Int) ≤ ((i + 1 : Nat) : Int)) = true := by rw [decide_eq_true_eq]; omega
            have a4 := aft_inv a2 (more.getD i z_LiftEvent)
            have a5 := aft_closed a2 hq (more.getD i z_LiftEvent)
            simp only [cond_false, dge, wrapC (show i < 9223372036854775807 by omega), d1, dle (show i + 1 ≤ more.length by omega), Bool.and_self, cond_true, Int.toNat_natCast, one_eq hN a2 more (by omega) hi, Option.bind_some, people17_eq hN a4.ok]
            have c1 : ((aft q (more.getD i z_LiftEvent)).Up != s.Up) = false := by rw [bne_eq_false_iff_eq, a5, a3]
            have c2 : ((aft q (more.getD i z_LiftEvent)).Mode == 3 && peopleS (aft q (more.getD i z_LiftEvent)).Line == 0) = false := by
              rw [Bool.and_eq_false_iff, beq_eq_false_iff_ne, beq_eq_false_iff_ne]
              by_cases hm : (aft q (more.getD i z_LiftEvent)).Mode = 3
              · exact .inr (a4.gd.last hm)
              · exact .inl hm
            rw [c1]
            simp only [cond_false, cond_and, c2, Option.bind_some]
            exact .inl ⟨_, rfl, rfl, a4, by simp only; rw [a5, a3]⟩
        · obtain ⟨i', q⟩ := st
          obtain ⟨a1, a2, a3⟩ := hI
          simp only at a1 a2 a3
          subst a1
          simp only [dnlt, cond_false]
          exact ⟨_, rfl, trivial⟩
        · cases q with
          | inl q => rfl
          | inr q =>
            simp only [Sum.elim_inr] at hq ⊢
            rw [hq]
end Go.Proofs.Ythjmbcnohgaihaa
