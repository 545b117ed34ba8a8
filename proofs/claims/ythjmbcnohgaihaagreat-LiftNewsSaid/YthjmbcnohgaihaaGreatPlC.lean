/- Own texts in one module: Lfg1 Lfg2 Lfg3. No condition. -/
import Derived.Test.YthjmbcnohgaihaaGreatPlA
import Derived.Test.YthjmbcnohgaihaaGreatPlB
/- The lift: what the references of the chain compute (taken out of the texts on the chain). No condition. -/
namespace Go.Proofs.YthjmbcnohgaihaaGreat.Ch
open Go.Cm Go.Proofs
set_option linter.unusedSectionVars false
section
variable {N : Nat}
theorem in_eq (x a b : Int) : r16_in N x a b = some (decide (a ≤ x) && decide (x ≤ b)) := by
  unfold r16_in
  by_cases h : a ≤ x <;> simp [h]
end
section
variable {N : Nat} (hN : 1000 < N)
include hN
theorem index_eq (l : List Contact) (id : Int) (hl : l.length ≤ 1000) : r16_index N l id = some (oi (fst (fun i => (l.getD i z_Contact).ID == id) l.length)) := by
  unfold r16_index
  rw [search (fun i => (l.getD i z_Contact).ID == id) (fun i => (i : Int)) () l.length (by omega) (fun i hi => ?_) (by simp)]
  · cases fst _ _ <;> rfl
  · simp [hi, wrapN (show i < 9223372036854775807 by omega)]
theorem bypassed_eq (l : List Contact) (hl : l.length ≤ 1000) : r16_bypassed N l = some (oi (fst (fun i => (l.getD i z_Contact).Until != 0) l.length)) := by
  unfold r16_bypassed
  rw [search (fun i => (l.getD i z_Contact).Until != 0) (fun i => (i : Int)) () l.length (by omega) (fun i hi => ?_) (by simp)]
  · cases fst _ _ <;> rfl
  · simp [hi, wrapN (show i < 9223372036854775807 by omega)]
theorem rright_eq (c : Chain) : r16_Right N c = some (rightS c) := by
  unfold r16_Right rightS
  by_cases hl : c.Contacts.length > 32
  · have : (c.Contacts.length : Int) > 32 := by omega
    simp [hl, this]
  · have : ¬ (c.Contacts.length : Int) > 32 := by omega
    simp only [hl, this, decide_false, cond_false, in_eq, Option.bind_some]
    have e1 : (!(decide (0 ≤ c.Key) && decide (c.Key ≤ 9999))) = (decide (c.Key < 0) || decide (c.Key > 9999)) := by
      by_cases h1 : 0 ≤ c.Key <;> by_cases h2 : c.Key ≤ 9999 <;> simp [h1, h2] <;> omega
    rw [e1]
    cases (decide (c.Key < 0) || decide (c.Key > 9999))
    · simp only [cond_false]
      rw [search (fun i => errAt c i != 0) (fun i => errAt c i) () c.Contacts.length (by omega) (fun i hi => ?_) (by simp)]
      · cases fst _ _ <;> rfl
      · have h1 : decide ((i : Int) < (c.Contacts.length : Int)) = true := by simp [hi]
        have h2 : decide ((i : Int) ≤ (c.Contacts.length : Int)) = true := by simp; omega
        have h3 : decide ((0 : Int) ≤ (i : Int)) = true := by simp
        have hlen : (c.Contacts.take i).length ≤ 1000 := by simp; omega
        rw [Int.toNat_natCast]
        simp only [h1, h2, h3, Bool.and_self, cond_true, index_eq hN _ _ hlen, bypassed_eq hN _ hlen, Option.bind_some, wrapN (show i < 9223372036854775807 by omega), ge_iff_le, oi_nonneg,
          take_fst c.Contacts i hi (fun x => x.ID == (c.Contacts.getD i z_Contact).ID), take_fst c.Contacts i hi (fun x => x.Until != 0)]
        have hb : byp c.Contacts i = (fst (fun j => (c.Contacts.getD j z_Contact).Until != 0) i).isSome := rfl
        have hd : dup c.Contacts i = (fst (fun j => (c.Contacts.getD j z_Contact).ID == (c.Contacts.getD i z_Contact).ID) i).isSome := rfl
        rw [← hb, ← hd]
        unfold errAt errO
        generalize c.Contacts.getD i z_Contact = o
        have e2 : (bif !(decide (1 ≤ o.ID) && decide (o.ID ≤ 9999)) then some true else some (!(decide (0 ≤ o.Until) && decide (o.Until ≤ 20000000)))) = some (decide (o.ID < 1) || decide (o.ID > 9999) || decide (o.Until < 0) || decide (o.Until > 20000000)) := by
          by_cases h1 : 1 ≤ o.ID <;> by_cases h2 : o.ID ≤ 9999 <;> by_cases h3 : 0 ≤ o.Until <;> by_cases h4 : o.Until ≤ 20000000 <;> simp [h1, h2, h3, h4] <;> omega
        rw [e2]
        cases (decide (o.ID < 1) || decide (o.ID > 9999) || decide (o.Until < 0) || decide (o.Until > 20000000)) <;> try rfl
        cases dup c.Contacts i <;> try rfl
        cases o.Closed <;> cases o.Latched <;> try rfl
        all_goals
          cases o.Critical <;> cases hU : (o.Until != 0) <;> try rfl
          all_goals
            cases c.Key == 0 <;> cases byp c.Contacts i <;> rfl
    · rfl
end
section
variable {N : Nat} (hN : 1000 < N) {c : Chain} (hl : c.Contacts.length ≤ 1000)
include hN hl
theorem index_idx (id : Int) : r16_index N c.Contacts id = some (oi (idx c id)) := index_eq hN c.Contacts id hl
theorem with_eq (i : Int) (x : Contact) (T : List Contact) (hT : T.length = c.Contacts.length) (h : ∀ k, k < c.Contacts.length → T.getD k z_Contact = if (k : Int) = i then x else c.Contacts.getD k z_Contact) : r16_with N c i x = some ⟨T, c.Key⟩ := by
  unfold r16_with
  refine (bind_while (r0 := (⟨T, c.Key⟩ : Chain)) (whileF_eq (fun k s => s = ((k : Int), (⟨T.take k, c.Key⟩ : Chain))) c.Contacts.length (by simp [mixd_zero]) (fun k s hk hI => ?_) (fun s hI => ?_) (by omega))).trans ?_
  · subst hI
    left
    have h1 : decide ((k : Int) < (c.Contacts.length : Int)) = true := by simp [hk]
    have h3 : decide ((0 : Int) ≤ (k : Int)) = true := by simp
    have h4 : ∀ y : Contact, decide (((T.take k).length + [y].length) * 24 ≤ 140737488355328) = true := fun y => by
      have : (T.take k).length ≤ k := by simp; omega
      have hy : [y].length = 1 := rfl
      simp only [decide_eq_true_eq, hy]
      omega
    refine ⟨((k + 1 : Nat) , ⟨T.take (k + 1), c.Key⟩), ?_, rfl⟩
    rw [take_getD T k z_Contact (by omega), h k hk]
    simp only [h1, h3, h4, cond_true, Int.toNat_natCast, Option.bind_some, wrapN (show k < 9223372036854775807 by omega), Bool.and_self]
    by_cases hki : (k : Int) = i
    · simp [hki]
    · have hb : ((k : Int) == i) = false := by simpa using hki
      simp [hki, hb]
  · subst hI
    simp [List.take_of_length_le (Nat.le_of_eq hT)]
  · rfl
theorem with_at (i : Nat) (hi : i < c.Contacts.length) (f : Contact → Contact) : r16_with N c i (f (c.Contacts.getD i z_Contact)) = some (at1 c i f) := by
  refine with_eq hN hl i _ _ (by simp) fun k hk => ?_
  rw [getD_set _ _ _ _ _ hi]
  by_cases h : i = k
  · simp [h]
  · rw [if_neg h, if_neg (by omega)]
theorem with_none : r16_with N c (-1) z_Contact = some c :=
  with_eq hN hl (-1) _ _ rfl fun k hk => by rw [if_neg (by omega)]
theorem rbreak_eq (id : Int) : r16_Break N c id = some (breakS c id) := by
  unfold r16_Break breakS
  rw [index_idx hN hl]
  cases h : idx c id with
  | none => rfl
  | some i =>
    have hi := (idx_some h).1
    simp only [oi, Option.bind_some, Int.toNat_natCast]
    have h1 : decide ((i : Int) < (c.Contacts.length : Int)) = true := by simp [hi]
    have h2 : decide ((i : Int) < 0) = false := by simp
    have h3 : decide ((0 : Int) ≤ (i : Int)) = true := by simp
    have hw := with_at hN hl i hi breakO
    unfold breakO at hw
    rw [h1, h2, h3, hw]
    rfl
theorem rmake_eq (id : Int) : r16_Make N c id = some (makeS c id) := by
  unfold r16_Make makeS
  rw [index_idx hN hl]
  cases h : idx c id with
  | none => rfl
  | some i =>
    have hi := (idx_some h).1
    simp only [oi, Option.bind_some, Int.toNat_natCast]
    have h1 : decide ((i : Int) < (c.Contacts.length : Int)) = true := by simp [hi]
    have h2 : decide ((i : Int) < 0) = false := by simp
    have h3 : decide ((0 : Int) ≤ (i : Int)) = true := by simp
    have hw := with_at hN hl i hi makeO
    unfold makeO at hw
    rw [h1, h2, h3, hw]
    rfl
theorem rclear_eq (id by' : Int) : r16_Clear N c id by' = some (clearS c id by') := by
  unfold r16_Clear clearS
  rw [index_idx hN hl]
  cases h : idx c id with
  | none => rfl
  | some i =>
    have hi := (idx_some h).1
    simp only [oi, Option.bind_some, Int.toNat_natCast, in_eq]
    have h1 : decide ((i : Int) < (c.Contacts.length : Int)) = true := by simp [hi]
    have h2 : decide ((i : Int) < 0) = false := by simp
    have h3 : decide ((0 : Int) ≤ (i : Int)) = true := by simp
    have hw := with_at hN hl i hi clearO
    unfold clearO at hw
    rw [h1, h2, h3, hw]
    cases (decide (1 ≤ by') && decide (by' ≤ 9999)) <;> cases (c.Contacts.getD i z_Contact).Closed <;> rfl
theorem rexpire_eq (t : Int) : r16_Expire N c t = some (expS c t) := by
  unfold r16_Expire expS
  have hT : (c.Contacts.map (expO t)).length = c.Contacts.length := by simp
  refine (bind_while (r0 := (⟨c.Contacts.map (expO t), c.Key⟩ : Chain)) (whileF_eq (fun k s => s = ((k : Int), (⟨(c.Contacts.map (expO t)).take k, c.Key⟩ : Chain))) c.Contacts.length (by simp [mixd_zero]) (fun k s hk hI => ?_) (fun s hI => ?_) (by omega))).trans ?_
  · subst hI
    left
    have h1 : decide ((k : Int) < (c.Contacts.length : Int)) = true := by simp [hk]
    have h3 : decide ((0 : Int) ≤ (k : Int)) = true := by simp
    have h4 : ∀ y : Contact, decide ((((c.Contacts.map (expO t)).take k).length + [y].length) * 24 ≤ 140737488355328) = true := fun y => by
      have : ((c.Contacts.map (expO t)).take k).length ≤ k := by simp; omega
      have hy : [y].length = 1 := rfl
      simp only [decide_eq_true_eq, hy]
      omega
    refine ⟨((k + 1 : Nat) , ⟨(c.Contacts.map (expO t)).take (k + 1), c.Key⟩), ?_, rfl⟩
    have hg := getD_map (expO t) c.Contacts k z_Contact z_Contact hk
    rw [take_getD _ k z_Contact (by omega), hg]
    simp only [h1, h3, h4, cond_true, Int.toNat_natCast, Option.bind_some, wrapN (show k < 9223372036854775807 by omega), Bool.and_self]
    by_cases hu : (c.Contacts.getD k z_Contact).Until ≤ t
    · simp only [hu, decide_true, cond_true, Option.bind_some, expO, h4]; rfl
    · simp only [hu, decide_false, cond_false, Option.bind_some, expO, h4]; rfl
  · subst hI
    simp [List.take_of_length_le (Nat.le_of_eq hT)]
  · rfl
theorem rfaults_eq (t : Int) : r16_Faults N c t = some (faultsS c t) := faults_eq hN hl t
end
section
variable {N : Nat} (hN : 1000 < N) {c : Chain}
include hN
theorem rtake_eq (v : Val c) (by' : Int) : r16_Take N c by' = some (takeS c by') := by
  have hl : c.Contacts.length ≤ 1000 := by have := v.len; omega
  unfold r16_Take takeS
  rw [in_eq, with_none hN hl, rexpire_eq hN hl]
  have he : expS c 20000000 = ⟨c.Contacts.map (untilO 0), c.Key⟩ := by
    unfold expS
    congr 1
    refine List.map_congr_left fun o ho => ?_
    obtain ⟨i, hi, rfl⟩ := mem_getD z_Contact ho
    simp only [expO, (v.unt i hi).2, decide_true, cond_true]
  rw [he]
  cases (decide (1 ≤ by') && decide (by' ≤ 9999)) <;> try rfl
  cases h2 : c.Key == 0 <;> cases h3 : c.Key == by' <;> simp only [bne, h2, h3, Option.bind_some, cond_true, cond_false, Bool.not_true, Bool.not_false, Bool.and_self, Bool.and_false, Bool.false_and, Bool.and_true]
theorem rbypass_eq (v : Val c) (id by' u : Int) : r16_Bypass N c id by' u = some (bypassS c id by' u) := by
  have hl : c.Contacts.length ≤ 1000 := by have := v.len; omega
  unfold r16_Bypass bypassS
  rw [index_idx hN hl, bypassed_eq hN _ hl]
  cases h : idx c id with
  | none => rfl
  | some i =>
    have hi := (idx_some h).1
    simp only [show oi (some i) = (i : Int) from rfl, Option.bind_some, Int.toNat_natCast, in_eq]
    have h1 : decide ((i : Int) < (c.Contacts.length : Int)) = true := by simp [hi]
    have h2 : decide ((i : Int) < 0) = false := by simp
    have h3 : decide ((0 : Int) ≤ (i : Int)) = true := by simp
    have hw := with_at hN hl i hi (untilO u)
    unfold untilO at hw
    rw [hw]
    simp only [h1, h2, h3, Bool.and_self, cond_true, cond_false]
    cases h4 : by' == 0 <;> cases h5 : by' == c.Key <;> simp only [bne, h5, Option.bind_some, cond_true, cond_false, Bool.not_true, Bool.not_false, Bool.or_self, Bool.or_true, Bool.true_or, Bool.or_false]
    cases h6 : (c.Contacts.getD i z_Contact).Critical <;> simp only [cond_true, cond_false]
    have hq : (bif decide (oi (fst (fun i => !((c.Contacts.getD i z_Contact).Until == 0)) c.Contacts.length) ≥ 0) then some (!(oi (fst (fun i => !((c.Contacts.getD i z_Contact).Until == 0)) c.Contacts.length) == (i : Int))) else some false) = some (fst (fun k => !(k == i) && !((c.Contacts.getD k z_Contact).Until == 0)) c.Contacts.length).isSome := by
      cases hf : fst (fun i => !((c.Contacts.getD i z_Contact).Until == 0)) c.Contacts.length with
      | none =>
        rw [fst_none] at hf
        have : fst (fun k => !(k == i) && !((c.Contacts.getD k z_Contact).Until == 0)) c.Contacts.length = none := fst_none.2 fun k hk => by rw [hf k hk, Bool.and_false]
        rw [this]
        rfl
      | some k =>
        rw [fst_some] at hf
        obtain ⟨f1, f2, f3⟩ := hf
        have hk0 : decide (oi (some k) ≥ 0) = true := by simp [oi]
        rw [hk0, cond_true]
        congr 1
        by_cases hki : k = i
        · subst hki
          have : fst (fun j => !(j == k) && !((c.Contacts.getD j z_Contact).Until == 0)) c.Contacts.length = none := fst_none.2 fun j hj => by
            by_cases hjk : j = k
            · simp [hjk]
            · have hk' : (c.Contacts.getD k z_Contact).Until ≠ 0 := by simpa using f2
              have hj' : (c.Contacts.getD j z_Contact).Until = 0 := by
                rcases Nat.lt_or_ge j k with h | h
                · exact (v.byp k f1 hk').2 j h
                · by_cases hz : (c.Contacts.getD j z_Contact).Until = 0
                  · exact hz
                  · exact absurd ((v.byp j hj hz).2 k (by omega)) hk'
              rw [hj']
              simp
          rw [this]
          simp [oi]
        · have : (fst (fun j => !(j == i) && !((c.Contacts.getD j z_Contact).Until == 0)) c.Contacts.length).isSome = true := by
            cases hz : fst (fun j => !(j == i) && !((c.Contacts.getD j z_Contact).Until == 0)) c.Contacts.length with
            | some _ => rfl
            | none =>
              rw [fst_none] at hz
              have := hz k f1
              rw [f2] at this
              simp [hki] at this
          rw [this]
          simp [oi]
          omega
    rw [hq]
    generalize (fst (fun k => !(k == i) && !((c.Contacts.getD k z_Contact).Until == 0)) c.Contacts.length).isSome = q
    cases q
    · have e1 : (!(decide (1 ≤ u) && decide (u ≤ 20000000))) = (decide (u < 1) || decide (u > 20000000)) := by
        by_cases h1 : 1 ≤ u <;> by_cases h2 : u ≤ 20000000 <;> simp [h1, h2] <;> omega
      simp only [Option.bind_some, cond_false, e1]
      cases decide (u < 1) || decide (u > 20000000) <;> rfl
    · rfl
end
end Go.Proofs.YthjmbcnohgaihaaGreat.Ch

/- The lift: what the references of drive, rope, queue, brakes, alarm and checklist compute. No condition. -/
namespace Go.Proofs.YthjmbcnohgaihaaGreat
open Go.Cm Go.Proofs
/-! alarm and drive -/
section
variable {N : Nat}
theorem rupdate_eq (a : Alarm) (v t : Int) : r12_Update N a v t = some (updA a v t) := by
  unfold r12_Update updA
  simp only [cond_or, Option.bind_some]
  have e : (decide (a.Off < 0) || (decide (a.On < a.Off) || (decide (a.Hold < 0) || (decide (a.Hold > 86400) || (decide (v < 0) || (decide (t < 0) || (decide (t > 20000000) || decide (a.Low > t)))))))) = badA a v t := by
    unfold badA
    rw [Bool.eq_iff_iff]
    simp only [Bool.or_eq_true, Bool.not_eq_true', Bool.and_eq_false_iff, decide_eq_true_eq, decide_eq_false_iff_not]
    omega
  rw [e]
  cases hb : badA a v t with
  | true => rfl
  | false =>
    unfold badA at hb
    simp only [Bool.or_eq_false_iff, Bool.not_eq_false', Bool.and_eq_true, decide_eq_true_eq, decide_eq_false_iff_not] at hb
    simp only [cond_false]
    cases decide (v ≥ a.On) with
    | true => rfl
    | false =>
      cases decide (v ≥ a.Off) with
      | true => rfl
      | false =>
        unfold lowA
        cases hl : decide (a.Low < 0) with
        | true =>
          simp only [cond_true, cond_false, Option.bind_some]
          rw [wrap64 (by omega) (by omega)]
          cases decide (t - t ≥ a.Hold) <;> rfl
        | false =>
          rw [decide_eq_false_iff_not] at hl
          simp only [cond_false, Option.bind_some]
          rw [wrap64 (by omega) (by omega)]
          cases decide (t - a.Low ≥ a.Hold) <;> rfl
theorem rdright_eq (m : Motor) : ∃ b, r14_Right N m = some b ∧ (b = true ↔ Mot m) := by
  unfold r14_Right
  simp only [cond_and, Option.bind_some]
  refine ⟨_, rfl, ?_⟩
  simp only [Bool.and_eq_true, decide_eq_true_eq]
  exact ⟨fun h => ⟨by omega, by omega, by omega, by omega⟩, fun h => by have := h.max; have := h.up; have := h.down; have := h.stop; omega⟩
theorem rdvalid_eq (m : Motor) (d : Drive) : ∃ b, r14_Valid N m d = some b ∧ (b = true ↔ Vd m d) := by
  unfold r14_Valid
  simp only [Option.bind_some, cond_or, cond_and]
  cases h1 : (decide (d.State < 0) || (decide (d.State > 3) || (decide (d.Speed < 0) || (decide (d.Speed > m.Max) || (decide (d.Moved < 0) || decide (d.Moved > 1125899906842624)))))) with
  | true =>
    refine ⟨false, rfl, fun h => (by cases h), fun h => ?_⟩
    have a := h.state
    have b := h.speed
    have c := h.moved
    simp only [Bool.or_eq_true, decide_eq_true_eq] at h1
    omega
  | false =>
    simp only [Bool.or_eq_false_iff, decide_eq_false_iff_not] at h1
    rw [cond_false]
    cases h2 : (d.State == 0) && (d.Speed != 0) with
    | true =>
      rw [Bool.and_eq_true, beq_iff_eq, bne_iff_ne] at h2
      exact ⟨false, rfl, fun h => (by cases h), fun h => absurd (h.stands h2.1) h2.2⟩
    | false =>
      rw [cond_false]
      have h3 : d.State = 0 → d.Speed = 0 := fun h0 => by
        rw [h0] at h2
        simpa using h2
      cases h4 : d.State == 1 with
      | true =>
        rw [beq_iff_eq] at h4
        refine ⟨_, rfl, ?_⟩
        simp only [Bool.and_eq_true, decide_eq_true_eq]
        exact ⟨fun h => ⟨by omega, by omega, by omega, h3, fun _ => by omega, fun h5 => absurd h4 h5⟩, fun h => by have := h.runs h4; omega⟩
      | false =>
        rw [beq_eq_false_iff_ne] at h4
        refine ⟨_, rfl, ?_⟩
        rw [beq_iff_eq]
        exact ⟨fun h => ⟨by omega, by omega, by omega, h3, fun h5 => absurd h5 h4, fun _ => h⟩, fun h => h.rest h4⟩
theorem rspeed_eq {m : Motor} {d : Drive} (hm : Mot m) (v : Vd m d) : r14_speed N m d = some (nextD m d) := by
  have a := hm.max
  have b := hm.up
  have c := hm.down
  have e := hm.stop
  have f := v.speed
  unfold r14_speed nextD
  rw [wrap64 (z := d.Speed + m.Up) (by omega) (by omega), wrap64 (z := d.Speed - m.Down) (by omega) (by omega), wrap64 (z := d.Speed - m.Stop) (by omega) (by omega)]
  simp only [cond_and, Option.bind_some]
  cases (d.State == 1) <;> cases decide (d.Speed < d.Target) <;> cases (d.State == 2) <;> cases (d.State == 3) <;> rfl
theorem rstep_eq (hN : 1000 < N) {m : Motor} {d : Drive} (hm : Mot m) (v : Vd m d) : r14_Step N m d 1 = some (stepD m d) := by
  obtain ⟨_, b1, b2, b3⟩ := next_eq N hm v
  have e1 := rspeed_eq (N := N) hm v
  have hmx := hm.max
  have hmv := v.moved
  have hmod : (IntKind.i64.wrap (d.Moved + nextD m d)).tmod 1125899906842625 = (d.Moved + nextD m d) % 1125899906842625 := by
    rw [wrap64 (by omega) (by omega), Int.tmod_eq_emod_of_nonneg (by omega)]
  unfold r14_Step
  refine (bindT (fun i : Nat => ((i : Int), if i = 0 then d else stepD m d)) rfl (stepD m d) 1 (show 1 < N by omega) (fun i hi => ?_) ?_).trans rfl
  · have hi : i = 0 := by omega
    subst hi
    have c2 : decide (((0 : Nat) : Int) < 1) = true := by decide
    have c4 : decide (((0 : Nat) : Int) < 3600) = true := by decide
    have c3 : IntKind.i64.wrap (((0 : Nat) : Int) + 1) = ((0 + 1 : Nat) : Int) := by decide
    simp only [c2, c4, cond_true, if_true, e1, Option.bind_some, cond_and, hmod, c3, Nat.zero_add, Nat.one_ne_zero, if_false]
    unfold stepD
    cases (d.State == 2 && nextD m d == 0) <;> rfl
  · have c2 : decide (((1 : Nat) : Int) < 1) = false := by decide
    simp only [c2, cond_false, Nat.one_ne_zero, if_false, Option.bind_some]
theorem rhalt_eq (m : Motor) (d : Drive) : r14_Halt N m d = some (haltD d) := by
  unfold r14_Halt haltD
  cases d.State == 1 <;> rfl
theorem rstart_eq (m : Motor) (d : Drive) (x : Int) : r14_Start N m d x = some (startD m d x) := by
  unfold r14_Start startD
  simp only [cond_or, Option.bind_some]
  have e : (decide (x < 1) || decide (x > m.Max)) = !(decide (1 ≤ x) && decide (x ≤ m.Max)) := by
    rw [Bool.eq_iff_iff]
    simp only [Bool.or_eq_true, Bool.not_eq_true', Bool.and_eq_false_iff, decide_eq_true_eq, decide_eq_false_iff_not]
    omega
  rw [e]
  cases (d.State == 2 || d.State == 3) with
  | true => rfl
  | false => cases (decide (1 ≤ x) && decide (x ≤ m.Max)) <;> rfl
theorem rreset_eq (m : Motor) (d : Drive) : r14_Reset N m d = some (resetD d) := by
  unfold r14_Reset resetD
  simp only [cond_or, Option.bind_some]
  cases (d.State != 3 || d.Speed != 0) <;> rfl
end
/-! brakes -/
section
variable {N : Nat}
theorem rnine_eq {n : Int} (h1 : 1 ≤ n) (h2 : n ≤ 10000000) : r15_nine N n = some (nineB n) := by
  unfold r15_nine nineB
  have e1 : n.tmod 10 = n % 10 := Int.tmod_eq_emod_of_nonneg (by omega)
  have e2 : n.tdiv 10 = n / 10 := Int.tdiv_eq_ediv_of_nonneg (by omega)
  rw [e1, e2, wrap64 (z := n / 10) (by omega) (by omega), wrap64 (z := 9 * (n / 10)) (by omega) (by omega), wrap64 (z := 9 * (n % 10)) (by omega) (by omega), wrap64 (z := 9 * (n % 10) + 9) (by omega) (by omega), Int.tdiv_eq_ediv_of_nonneg (show 0 ≤ 9 * (n % 10) + 9 by omega), wrap64 (z := (9 * (n % 10) + 9) / 10) (by omega) (by omega), Int.tdiv_eq_ediv_of_nonneg (show 0 ≤ 9 * (n % 10) by omega), wrap64 (z := 9 * (n % 10) / 10) (by omega) (by omega), wrap64 (z := 9 * (n / 10) + (9 * (n % 10) + 9) / 10) (by omega) (by omega), wrap64 (z := 9 * (n / 10) + 9 * (n % 10) / 10) (by omega) (by omega)]
  cases hc : decide (n % 10 > 0) with
  | true => rfl
  | false =>
    rw [decide_eq_false_iff_not] at hc
    rw [cond_false]
    congr 1
    omega
theorem rbvalid_eq {b : Brake} (h : BrOk b) {t : Int} (h1 : 0 ≤ t) (h2 : t ≤ 20000000) : r15_Valid N b t = some (validB t b) := by
  have a := h.tested
  unfold r15_Valid validB
  rw [rnine_eq h.force.1 h.force.2, wrap64 (by omega) (by omega)]
  cases decide (b.Tested ≥ 0) <;> cases decide (t ≥ b.Tested) <;> cases decide (t - b.Tested < 604800) <;> rfl
variable (hN : 1000 < N)
include hN
theorem rforce_eq {l : List Brake} (h : rightB l = 0) (k : Int) {t : Int} (h1 : 0 ≤ t) (h2 : t ≤ 20000000) : r15_Force N l k t = some (forceB l k t) := by
  have h' := (rightB_iff l).1 h
  have hl := h'.1
  unfold r15_Force
  refine (bindT (fun i => (((l.take i).map (frB k t)).sum, (i : Int))) rfl (forceB l k t) l.length (show l.length < N by omega) (fun i hi => ?_) ?_).trans rfl
  · have b := force_bound h k t (i + 1) (by omega)
    have b0 := force_bound h k t i (by omega)
    have e : ((l.take (i + 1)).map (frB k t)).sum = ((l.take i).map (frB k t)).sum + frB k t (l.getD i z_Brake) := by
      rw [take_getD l i z_Brake hi, List.map_append, List.sum_append]
      simp
    simp only [dlt hi, dge, Bool.and_self, cond_true, Int.toNat_natCast, rbvalid_eq (N := N) (h'.2 i hi).1 h1 h2, Option.bind_some, cond_and, wrapC (show i < 9223372036854775807 by omega)]
    rw [e] at b ⊢
    unfold frB at b ⊢
    cases hc : ((l.getD i z_Brake).Kind == k && validB t (l.getD i z_Brake)) with
    | true =>
      rw [hc, cond_true] at b
      simp only [cond_true, Option.bind_some]
      rw [wrap64 (by omega) (by omega)]
    | false => simp only [cond_false, Option.bind_some, Int.add_zero]
  · simp only [dnlt, cond_false, List.take_length]
    rfl
theorem renough_eq {l : List Brake} (h : rightB l = 0) (load : Int) {t : Int} (h1 : 0 ≤ t) (h2 : t ≤ 20000000) : r15_Enough N l load t = some (enoughB l load t) := by
  unfold r15_Enough enoughB
  simp only [rforce_eq hN h _ h1 h2, Option.bind_some]
  cases decide (forceB l 0 t ≥ load) <;> rfl
theorem rbright_eq (l : List Brake) : r15_Right N l = some (rightB l) := by
  unfold r15_Right rightB
  cases h1 : decide ((l.length : Int) > 8) with
  | true => rfl
  | false =>
    rw [decide_eq_false_iff_not] at h1
    rw [cond_false, cond_false, search (fun i => errB l i != 0) (fun i => errB l i) () l.length (by omega) (fun i hi => ?_) (by simp)]
    · cases fst (fun i => errB l i != 0) l.length <;> rfl
    · have hin : ∀ b : Brake, (bif decide (b.ID < (1 : Int)) then some true
                    else
                      bif decide (b.ID > (9999 : Int)) then some true
                      else
                        bif b.Kind != (0 : Int) then
                          bif b.Kind != (1 : Int) then some true
                          else
                            bif decide (b.Force < (1 : Int)) then some true
                            else
                              bif decide (b.Force > (10000000 : Int)) then some true
                              else
                                bif decide (b.Tested < (-1 : Int)) then some true
                                else
                                  bif decide (b.Tested > (20000000 : Int)) then some true
                                  else
                                    bif decide (b.Measured < (0 : Int)) then some true
                                    else
                                      bif decide (b.Measured > (10000000 : Int)) then some true
                                      else
                                        bif b.Tested == (-1 : Int) then
                                          some (b.Measured != (0 : Int))
                                        else some false
                        else
                          bif decide (b.Force < (1 : Int)) then some true
                          else
                            bif decide (b.Force > (10000000 : Int)) then some true
                            else
                              bif decide (b.Tested < (-1 : Int)) then some true
                              else
                                bif decide (b.Tested > (20000000 : Int)) then some true
                                else
                                  bif decide (b.Measured < (0 : Int)) then some true
                                  else
                                    bif decide (b.Measured > (10000000 : Int)) then some true
                                    else
                                      bif b.Tested == (-1 : Int) then
                                        some (b.Measured != (0 : Int))
                                      else some false) = some (!inB b) := fun b => by
        simp only [cond_some]
        congr 1
        cases hb : inB b with
        | true =>
          have q := (inB_iff b).1 hb
          have q1 := q.id
          have q2 := q.force
          have q3 := q.tested
          have q4 := q.meas
          have q5 := q.both
          have d1 : decide (b.ID < 1) = false := by rw [decide_eq_false_iff_not]; omega
          have d2 : decide (b.ID > 9999) = false := by rw [decide_eq_false_iff_not]; omega
          have d3 : decide (b.Force < 1) = false := by rw [decide_eq_false_iff_not]; omega
          have d4 : decide (b.Force > 10000000) = false := by rw [decide_eq_false_iff_not]; omega
          have d5 : decide (b.Tested < -1) = false := by rw [decide_eq_false_iff_not]; omega
          have d6 : decide (b.Tested > 20000000) = false := by rw [decide_eq_false_iff_not]; omega
          have d7 : decide (b.Measured < 0) = false := by rw [decide_eq_false_iff_not]; omega
          have d8 : decide (b.Measured > 10000000) = false := by rw [decide_eq_false_iff_not]; omega
          have d9 : (bif b.Tested == -1 then b.Measured != 0 else false) = false := by
            by_cases h0 : b.Tested = -1
            · rw [q5 h0, h0]; rfl
            · have : (b.Tested == -1) = false := by rw [beq_eq_false_iff_ne]; exact h0
              rw [this]; rfl
          rcases q.kind with hk | hk
          · rw [d1, d2, d3, d4, d5, d6, d7, d8, d9, hk]; rfl
          · rw [d1, d2, d3, d4, d5, d6, d7, d8, d9, hk]; rfl
        | false =>
          have q : ¬ BrOk b := fun h => by rw [(inB_iff b).2 h] at hb; cases hb
          rw [Bool.not_false]
          by_cases a1 : b.ID < 1
          · simp [a1]
          by_cases a2 : b.ID > 9999
          · simp [a2]
          by_cases a3 : b.Force < 1
          · by_cases k0 : b.Kind = 0 <;> by_cases k1 : b.Kind = 1 <;> simp [a3, k0, k1]
          by_cases a4 : b.Force > 10000000
          · by_cases k0 : b.Kind = 0 <;> by_cases k1 : b.Kind = 1 <;> simp [a4, k0, k1]
          by_cases a5 : b.Tested < -1
          · by_cases k0 : b.Kind = 0 <;> by_cases k1 : b.Kind = 1 <;> simp [a5, k0, k1]
          by_cases a6 : b.Tested > 20000000
          · by_cases k0 : b.Kind = 0 <;> by_cases k1 : b.Kind = 1 <;> simp [a6, k0, k1]
          by_cases a7 : b.Measured < 0
          · by_cases k0 : b.Kind = 0 <;> by_cases k1 : b.Kind = 1 <;> simp [a7, k0, k1]
          by_cases a8 : b.Measured > 10000000
          · by_cases k0 : b.Kind = 0 <;> by_cases k1 : b.Kind = 1 <;> simp [a8, k0, k1]
          by_cases k0 : b.Kind = 0
          · by_cases a9 : b.Tested = -1 ∧ b.Measured ≠ 0
            · simp [k0, a9.1, a9.2]
            · exact absurd ⟨by omega, .inl k0, by omega, by omega, by omega, fun h0 => by omega⟩ q
          · by_cases k1 : b.Kind = 1
            · by_cases a9 : b.Tested = -1 ∧ b.Measured ≠ 0
              · simp [k1, a9.1, a9.2]
              · exact absurd ⟨by omega, .inr k1, by omega, by omega, by omega, fun h0 => by omega⟩ q
            · simp [k0, k1]
      have hin' := hin (l.getD i z_Brake)
      simp only [dlt hi, dge, Bool.and_self, cond_true, Int.toNat_natCast]
      rw [hin', Option.bind_some]
      unfold errB
      cases inB (l.getD i z_Brake) with
      | false => rfl
      | true =>
        simp only [Bool.not_true, cond_false]
        rw [search (fun j => (l.getD j z_Brake).ID == (l.getD i z_Brake).ID) (fun _ => (7 : Int)) () i (by omega) (fun j hj => ?_) (by simp), Option.bind_some]
        · unfold dupB
          cases fst (fun j => (l.getD j z_Brake).ID == (l.getD i z_Brake).ID) i with
          | none => simp only [sres, Sum.elim_inl, Option.isSome_none, wrapN (show i < 9223372036854775807 by omega)]; rfl
          | some j => rfl
        · simp only [dlt hj, dge, dlt (show j < l.length by omega), Bool.and_self, cond_true, Int.toNat_natCast, wrapN (show j < 9223372036854775807 by omega)]
theorem rbtest_eq {l : List Brake} (h : rightB l = 0) (id m t : Int) : r15_Test N l id m t = some (testB l id m t) := by
  have h' := (rightB_iff l).1 h
  have hl := h'.1
  unfold r15_Test testB
  have st : ∀ k, k < l.length → (fst (fun i => (l.getD i z_Brake).ID == id) (k + 1)) = bif (l.getD k z_Brake).ID == id then some k else fst (fun i => (l.getD i z_Brake).ID == id) k := fun k hkl' => by
    cases hc : ((l.getD k z_Brake).ID == id) with
    | true =>
      rw [cond_true, fst_some]
      refine ⟨by omega, hc, fun j hj => ?_⟩
      rw [beq_iff_eq] at hc
      rw [beq_eq_false_iff_ne, ← hc]
      exact (h'.2 k hkl').2 j hj
    | false =>
      rw [cond_false]
      cases hf : fst (fun i => (l.getD i z_Brake).ID == id) k with
      | none =>
        rw [fst_none] at hf ⊢
        intro i hi
        by_cases hik : i = k
        · rw [hik]; exact hc
        · exact hf i (by omega)
      | some i =>
        rw [fst_some] at hf ⊢
        exact ⟨by omega, hf.2⟩
  refine (bindT (fun i => (oi (fst (fun j => (l.getD j z_Brake).ID == id) i), (i : Int))) rfl (oi (idxB l id)) l.length (show l.length < N by omega) (fun i hi => ?_) ?_).trans ?_
  · simp only [dlt hi, dge, Bool.and_self, cond_true, Int.toNat_natCast, wrapC (show i < 9223372036854775807 by omega)]
    rw [st i hi]
    cases ((l.getD i z_Brake).ID == id) <;> rfl
  · simp only [dnlt, cond_false]
    rfl
  · cases h : idxB l id with
    | none => rfl
    | some i =>
      have hi : i < l.length := (fst_some.1 h).1
      have h2 : decide ((i : Int) < 0) = false := by simp
      have hb : decide ((0 + l.length) * 40 ≤ 140737488355328) = true := by rw [decide_eq_true_eq]; omega
      have ec : (decide (m < 0) || (decide (m > 10000000) || (decide (t < 0) || decide (t > 20000000)))) = (!(decide (0 ≤ m) && decide (m ≤ 10000000)) || !(decide (0 ≤ t) && decide (t ≤ 20000000))) := by
        rw [Bool.eq_iff_iff]
        simp only [Bool.or_eq_true, Bool.not_eq_true', Bool.and_eq_false_iff, decide_eq_true_eq, decide_eq_false_iff_not]
        omega
      rw [show oi (some i) = ((i : Nat) : Int) from rfl]
      simp only [Option.bind_some, Int.toNat_natCast, h2, cond_false, dge, dlt hi, Bool.and_self, cond_true, List.length_set, getD_set _ _ _ _ _ hi, if_true, List.set_set, cond_or, hb, ec]
      cases (!(decide (0 ≤ m) && decide (m ≤ 10000000)) || !(decide (0 ≤ t) && decide (t ≤ 20000000))) <;> cases decide (t < (l.getD i z_Brake).Tested) <;> rfl
end
end Go.Proofs.YthjmbcnohgaihaaGreat

/- The lift: what the references of rope, queue and checklist compute. No condition. -/
namespace Go.Proofs.YthjmbcnohgaihaaGreat
open Go.Cm Go.Proofs
/-! rope -/
section
variable {N : Nat}
theorem rropeNew_eq (l : Lift) : r17_New N l = some (newR l) := by
  unfold r17_New newR
  cases h1 : badN l with
  | true =>
    have h1' := h1
    unfold badN at h1'
    by_cases a1 : l.Length < 10
    · simp [a1]
    by_cases a2 : l.Length > 6000
    · simp [a2]
    by_cases a3 : l.Spacing < 5
    · simp [a3]
    by_cases a4 : l.Spacing > 1000
    · simp [a4]
    simp [a1, a2, a3, a4] at h1'
  | false =>
    have h1' := h1
    unfold badN at h1'
    simp only [Bool.or_eq_false_iff, decide_eq_false_iff_not] at h1'
    obtain ⟨a1, a2, a3, a4⟩ := h1'
    have d1 : decide (l.Length < 10) = false := by rw [decide_eq_false_iff_not]; exact a1
    have d2 : decide (l.Length > 6000) = false := by rw [decide_eq_false_iff_not]; exact a2
    have d3 : decide (l.Spacing < 5) = false := by rw [decide_eq_false_iff_not]; exact a3
    have d4 : decide (l.Spacing > 1000) = false := by rw [decide_eq_false_iff_not]; exact a4
    have n0 : (l.Spacing != 0) = true := by rw [bne_iff_ne]; omega
    have c0 : 0 ≤ cntN l := Int.ediv_nonneg (by omega) (by omega)
    have c1 : cntN l ≤ 12000 := Int.le_trans (Int.ediv_le_self _ (by omega)) (by omega)
    have e1 : IntKind.i64.wrap ((2 * l.Length).tdiv l.Spacing) = cntN l := by
      rw [Int.tdiv_eq_ediv_of_nonneg (by omega)]
      exact wrap64 (by unfold cntN at c0; omega) (by unfold cntN at c1; omega)
    have e2 : ((2 * l.Length).tmod l.Spacing != 0) = (cntN l * l.Spacing != 2 * l.Length) := by
      rw [Int.tmod_eq_emod_of_nonneg (by omega)]
      have : cntN l * l.Spacing + 2 * l.Length % l.Spacing = 2 * l.Length := Int.ediv_mul_add_emod _ _
      rw [Bool.eq_iff_iff, bne_iff_ne, bne_iff_ne]
      omega
    simp only [d1, d2, d3, d4, cond_false, n0, cond_true, wrap64 (z := 2 * l.Length) (by omega) (by omega), e1, e2, cond_or, Option.bind_some, wrap64 (z := 2000 * l.Length) (by omega) (by omega), wrap64 (z := 1000 * l.Spacing) (by omega) (by omega)]
    cases h2 : (cntN l * l.Spacing != 2 * l.Length || decide (cntN l > 200)) with
    | true => rfl
    | false =>
      have d1 : decide (0 ≤ cntN l) = true := by rw [decide_eq_true_eq]; omega
      have d2 : decide (cntN l ≤ cntN l) = true := by rw [decide_eq_true_eq]; omega
      have d3 : decide (cntN l * 8 ≤ 140737488355328) = true := by rw [decide_eq_true_eq]; omega
      simp only [d1, d2, d3, Bool.and_self, cond_true, cond_false]
theorem rat_eq {l : Line} {s : Int} (h : RopeOk l s) {i : Nat} (hi : i < l.Load.length) : r17_At N l (i : Int) = some (posR l i) := by
  have a := loop_bound h
  have b := mul_bound h hi
  have c := h.off
  unfold r17_At posR
  have n0 : (l.Loop != 0) = true := by rw [bne_iff_ne]; omega
  have d1 : decide ((i : Int) < 0) = false := by simp
  have d2 : decide ((i : Int) ≥ (l.Load.length : Int)) = false := by simp [hi]
  rw [d1, d2, n0]
  simp only [cond_false, Option.bind_some, cond_true]
  rw [wrap64 (z := (i : Int) * l.Spacing) (by omega) (by omega), wrap64 (by omega) (by omega), Int.tmod_eq_emod_of_nonneg (by omega)]
theorem rat_out {l : Line} {i : Int} (hi : i < 0 ∨ i ≥ (l.Load.length : Int)) : r17_At N l i = some (-1) := by
  unfold r17_At
  have : (decide (i < 0) || decide (i ≥ (l.Load.length : Int))) = true := by simpa using hi
  simp only [cond_or, this, Option.bind_some, cond_true]
theorem rset_eq (l : Line) (hl : l.Load.length ≤ 900) {i : Nat} (hi : i < l.Load.length) (n : Int) : r17_set N l (i : Int) n = some (setR l i n) := by
  unfold r17_set r17_with
  have : decide ((0 + l.Load.length) * 8 ≤ 140737488355328) = true := by rw [decide_eq_true_eq]; omega
  simp only [this, cond_true, Option.bind_some, List.nil_append, dge, dlt hi, Bool.and_self, Int.toNat_natCast]
  rfl
theorem rload_eq {l : Line} {s : Int} (h : RopeOk l s) (hs : s ≤ 16) {i : Nat} (hi : i < l.Load.length) {n : Int} (h0 : 0 ≤ n) (h1 : n ≤ s) (hp : posR l i < l.Spacing) (hp2 : posR l i < l.Loop / 2) (hz : l.Load.getD i 0 = 0) : r17_Load N l (i : Int) n s = some (setR l i n, 0) := by
  have ln := h.len
  have pb := pos_bound h i
  unfold r17_Load
  have c1 : decide (posR l i < 0) = false := by rw [decide_eq_false_iff_not]; omega
  have c2 : decide (posR l i ≥ l.Spacing) = false := by rw [decide_eq_false_iff_not]; omega
  have c3 : decide (posR l i ≥ l.Loop / 2) = false := by rw [decide_eq_false_iff_not]; omega
  have c4 : decide (n < 0) = false := by rw [decide_eq_false_iff_not]; omega
  have c5 : decide (n > s) = false := by rw [decide_eq_false_iff_not]; omega
  have c6 : decide (s > 16) = false := by rw [decide_eq_false_iff_not]; omega
  simp only [rat_eq (N := N) h hi, Option.bind_some, c1, cond_false, half_eq h, c2, c3, dge, dlt hi, Bool.and_self, cond_true, Int.toNat_natCast, hz, bne_self_eq_false, c4, c5, c6, rset_eq (N := N) l (by omega) hi]
theorem rtakeR_eq {l : Line} {s : Int} (h : RopeOk l s) (hs : s ≤ 16) (i n : Int) : r17_Take N l i n = some (takeR l i n) := by
  have ln := h.len
  unfold r17_Take takeR
  cases c1 : (decide (i ≥ 0) && decide (i < (l.Load.length : Int))) with
  | false =>
    simp only [Bool.and_eq_false_iff, decide_eq_false_iff_not] at c1
    rw [rat_out (by omega)]
    rfl
  | true =>
    simp only [Bool.and_eq_true, decide_eq_true_eq] at c1
    obtain ⟨k, rfl⟩ : ∃ k : Nat, i = (k : Int) := ⟨i.toNat, by omega⟩
    have hk : k < l.Load.length := by omega
    have pb := pos_bound h k
    have q := h.load k hk
    have d1 : decide (posR l k < 0) = false := by rw [decide_eq_false_iff_not]; omega
    simp only [rat_eq (N := N) h hk, Option.bind_some, d1, cond_false, dge, dlt hk, Bool.and_self, cond_true, Int.toNat_natCast, cond_or, Bool.not_true]
    cases c3 : (decide (n < 0) || decide (n > l.Load.getD k 0)) with
    | true => rfl
    | false =>
      simp only [Bool.or_eq_false_iff, decide_eq_false_iff_not] at c3
      simp only [cond_false]
      rw [wrap64 (by omega) (by omega), rset_eq l (by omega) hk]
      rfl
variable (hN : 1000 < N)
include hN
theorem rropeRight_eq (l : Line) (s : Int) : ∃ b, r17_Right N l s = some b ∧ (b = true ↔ RopeOk l s) := by
  unfold r17_Right
  simp only [cond_or, Option.bind_some]
  cases h1 : (decide (l.Spacing < 5000) || (decide (l.Spacing > 1000000) || (decide ((l.Load.length : Int) < 1) || (decide ((l.Load.length : Int) > 200) || (l.Loop != IntKind.i64.wrap (l.Spacing * (l.Load.length : Int)) || (l.Loop.tmod 2 != 0 || (decide (l.Offset < 0) || decide (l.Offset ≥ l.Loop)))))))) with
  | true =>
    refine ⟨false, rfl, fun h => (by cases h), fun h => ?_⟩
    have a := h.spc
    have b := h.len
    have d := loop_bound h
    have lp := h.loop
    have ev := h.even
    have of := h.off
    rw [Int.mul_comm] at lp
    rw [wrap64 (by omega) (by omega), Int.tmod_eq_emod_of_nonneg (by omega)] at h1
    simp only [Bool.or_eq_true, decide_eq_true_eq, bne_iff_ne] at h1
    omega
  | false =>
    simp only [Bool.or_eq_false_iff, decide_eq_false_iff_not, bne_eq_false_iff_eq] at h1
    obtain ⟨a1, a2, a3, a4, e1, e2, e3, e4⟩ := h1
    have k1 : 1 * 5000 ≤ (l.Load.length : Int) * l.Spacing := Int.mul_le_mul (by omega) (by omega) (by omega) (by omega)
    have k2 : (l.Load.length : Int) * l.Spacing ≤ 200 * 1000000 := Int.mul_le_mul (by omega) (by omega) (by omega) (by omega)
    rw [Int.mul_comm, wrap64 (by omega) (by omega)] at e1
    rw [Int.tmod_eq_emod_of_nonneg (by omega)] at e2
    rw [cond_false]
    have hpos : ∀ i : Nat, i < l.Load.length → r17_At N l (i : Int) = some (posR l i) := fun i hi => by
      have b1 : 0 ≤ (i : Int) * l.Spacing := Int.mul_nonneg (by omega) (by omega)
      have b2 : (i : Int) * l.Spacing ≤ 200 * 1000000 := Int.mul_le_mul (by omega) (by omega) (by omega) (by omega)
      unfold r17_At posR
      have n0 : (l.Loop != 0) = true := by rw [bne_iff_ne]; omega
      have d1 : decide ((i : Int) < 0) = false := by simp
      have d2 : decide ((i : Int) ≥ (l.Load.length : Int)) = false := by simp [hi]
      rw [d1, d2, n0]
      simp only [cond_false, Option.bind_some, cond_true]
      rw [wrap64 (z := (i : Int) * l.Spacing) (by omega) (by omega), wrap64 (by omega) (by omega), Int.tmod_eq_emod_of_nonneg (by omega)]
    have hhalf : IntKind.i64.wrap (l.Loop.tdiv 2) = l.Loop / 2 := by rw [Int.tdiv_eq_ediv_of_nonneg (by omega), wrap64 (by omega) (by omega)]
    rw [search (fun i => decide (l.Load.getD i 0 < 0) || (decide (l.Load.getD i 0 > s) || (decide (posR l i ≥ l.Loop / 2) && l.Load.getD i 0 != 0))) (fun _ => false) () l.Load.length (by omega) (fun i hi => ?_) (by simp)]
    · cases hf : fst (fun i => decide (l.Load.getD i 0 < 0) || (decide (l.Load.getD i 0 > s) || (decide (posR l i ≥ l.Loop / 2) && l.Load.getD i 0 != 0))) l.Load.length with
      | some i =>
        refine ⟨false, rfl, fun h => (by cases h), fun h => ?_⟩
        obtain ⟨a, b, _⟩ := fst_some.1 hf
        have q := h.load i a
        simp only [Bool.or_eq_true, Bool.and_eq_true, decide_eq_true_eq, bne_iff_ne] at b
        rcases b with b | b | ⟨b, c⟩
        · omega
        · omega
        · have := q.2.2 c
          omega
      | none =>
        refine ⟨true, rfl, fun _ => ⟨by omega, by omega, e1, e2, by omega, fun i hi => ?_⟩, fun _ => rfl⟩
        have := fst_none.1 hf i hi
        simp only [Bool.or_eq_false_iff, Bool.and_eq_false_iff, decide_eq_false_iff_not, bne_eq_false_iff_eq] at this
        obtain ⟨a, b, c⟩ := this
        refine ⟨by omega, by omega, fun h0 => ?_⟩
        rcases c with c | c
        · omega
        · exact absurd c h0
    · simp only [dlt hi, dge, Bool.and_self, cond_true, Int.toNat_natCast, hpos i hi, hhalf, Option.bind_some, wrapN (show i < 9223372036854775807 by omega), cond_and, cond_or]
theorem rpeople_eq {l : Line} {s : Int} (h : RopeOk l s) (hs : s ≤ 16) : r17_People N l = some (peopleS l) := people_eq hN h hs
theorem rmove_eq {l : Line} {s d : Int} (h : RopeOk l s) (hs : s ≤ 16) (h0 : 0 ≤ d) (h1 : d ≤ l.Spacing) : r17_Move N l d = some (moveR l d, passR l d l.Load.length, leftR l d l.Load.length, 0) := by
  have a := loop_bound h
  have sp := h.spc
  have ln := h.len
  have of := h.off
  have c0 : (decide (d < 0) || decide (d > l.Spacing)) = false := by simp only [Bool.or_eq_false_iff, decide_eq_false_iff_not]; omega
  unfold r17_Move r17_with
  simp only [cond_or, Option.bind_some, c0, cond_false, half_eq h]
  have hT := ldsR_len l d
  refine (bindT (fun i => ((ldsR l d).take i, passR l d i, leftR l d i, (i : Int))) (by simp [passR, leftR]) (ldsR l d, passR l d l.Load.length, leftR l d l.Load.length) l.Load.length (show l.Load.length < N by omega) (fun i hi => ?_) ?_).trans ?_
  · have pb := pos_bound h i
    have lb := leftR_bound (d := d) h (i + 1) (by omega)
    have lb0 := leftR_bound (d := d) h i (by omega)
    have q := h.load i hi
    have sb : s * ((i + 1 : Nat) : Int) ≤ 16 * 200 := by
      have : 0 ≤ s := by omega
      exact Int.mul_le_mul hs (by omega) (by omega) (by omega)
    have tl : ((ldsR l d).take i).length = i := by rw [List.length_take, hT]; omega
    have hb : ∀ y : Int, decide ((((ldsR l d).take i).length + [y].length) * 8 ≤ 140737488355328) = true := fun y => by rw [tl, decide_eq_true_eq, List.length_singleton]; omega
    have e2 : (bif decide (posR l i + d ≥ l.Loop) then some (i : Int) else some (passR l d i)) = some (passR l d (i + 1)) := by
      show _ = some (bif decide (posR l i + d ≥ l.Loop) then (i : Int) else passR l d i)
      cases decide (posR l i + d ≥ l.Loop) <;> rfl
    have e4 : (ldsR l d).take (i + 1) = (ldsR l d).take i ++ [ldR l d i] := by
      rw [take_getD _ i 0 (by omega), ldsR_getD l d hi]
    simp only [dlt hi, dge, Bool.and_self, cond_true, Int.toNat_natCast, rat_eq (N := N) h hi, Option.bind_some, wrap64 (z := posR l i + d) (by omega) (by omega), cond_and, wrapC (show i < 9223372036854775807 by omega), e2, e4, hb]
    have e1 : (decide (posR l i < l.Loop / 2) && decide (posR l i + d ≥ l.Loop / 2)) = hitR l d i := rfl
    rw [e1]
    unfold ldR
    cases hh : hitR l d i with
    | true =>
      have e3 : leftR l d (i + 1) = leftR l d i + l.Load.getD i 0 := by
        show leftR l d i + (bif hitR l d i then l.Load.getD i 0 else 0) = _
        rw [hh, cond_true]
      rw [e3] at lb
      simp only [cond_true, Option.bind_some, e3]
      rw [wrap64 (by omega) (by omega)]
    | false =>
      have e3 : leftR l d (i + 1) = leftR l d i := by
        show leftR l d i + (bif hitR l d i then l.Load.getD i 0 else 0) = _
        rw [hh, cond_false, Int.add_zero]
      simp only [cond_false, Option.bind_some, e3]
  · have : (ldsR l d).take l.Load.length = ldsR l d := by rw [← hT, List.take_length]
    simp only [dnlt, cond_false, this]
  · have n0 : (l.Loop != 0) = true := by rw [bne_iff_ne]; omega
    simp only [n0, cond_true, Option.bind_some]
    rw [wrap64 (by omega) (by omega), Int.tmod_eq_emod_of_nonneg (by omega)]
    rfl
/-! queue -/
theorem rqright_eq (q : Queue) : ∃ b, r18_Right N q = some b ∧ (b = true ↔ QOk q) := by
  unfold r18_Right
  simp only [cond_or, Option.bind_some]
  cases h1 : (decide ((q.Groups.length : Int) > 200) || (decide (q.Singles < 0) || decide (q.Singles > 10000))) with
  | true =>
    refine ⟨false, rfl, fun h => (by cases h), fun h => ?_⟩
    have a := h.len
    have b := h.sing
    simp only [Bool.or_eq_true, decide_eq_true_eq] at h1
    omega
  | false =>
    simp only [Bool.or_eq_false_iff, decide_eq_false_iff_not] at h1
    have hl : q.Groups.length ≤ 200 := by omega
    rw [cond_false, search (fun i => decide (q.Groups.getD i 0 < 1) || decide (q.Groups.getD i 0 > 16)) (fun _ => false) () q.Groups.length (by omega) (fun i hi => ?_) (by simp)]
    · cases hf : fst (fun i => decide (q.Groups.getD i 0 < 1) || decide (q.Groups.getD i 0 > 16)) q.Groups.length with
      | some i =>
        refine ⟨false, rfl, fun h => (by cases h), fun h => ?_⟩
        obtain ⟨a, b, _⟩ := fst_some.1 hf
        have := h.grp _ (getD_mem q.Groups i 0 a)
        simp only [Bool.or_eq_true, decide_eq_true_eq] at b
        omega
      | none =>
        refine ⟨true, rfl, fun _ => ⟨hl, by omega, fun g hg => ?_⟩, fun _ => rfl⟩
        obtain ⟨i, hi, rfl⟩ := mem_getD 0 hg
        have := fst_none.1 hf i hi
        simp only [Bool.or_eq_false_iff, decide_eq_false_iff_not] at this
        omega
    · simp only [dlt hi, dge, Bool.and_self, cond_true, Int.toNat_natCast, cond_or, Option.bind_some, wrapN (show i < 9223372036854775807 by omega)]
omit hN in
theorem rown_eq {q : Queue} (h : q.Groups.length ≤ 900) : r18_own N q = some q := by
  unfold r18_own
  have : decide ((0 + q.Groups.length) * 8 ≤ 140737488355328) = true := by rw [decide_eq_true_eq]; omega
  rw [this]
  rfl
omit hN in
theorem rjoin_eq {q : Queue} (h : QOk q) (n : Int) : r18_Join N q n = some (joinS q n) := by
  have hl := h.len
  unfold r18_Join joinS
  have hb : decide ((q.Groups.length + [n].length) * 8 ≤ 140737488355328) = true := by simp only [List.length_singleton, decide_eq_true_eq]; omega
  simp only [cond_or, Option.bind_some, rown_eq (N := N) (show q.Groups.length ≤ 900 by omega), hb]
  cases (decide (n < 1) || decide (n > 16)) <;> cases decide ((q.Groups.length : Int) ≥ 200) <;> rfl
omit hN in
theorem rsingle_eq {q : Queue} (h : QOk q) (n : Int) : r18_Single N q n = some (singleS q n) := by
  have hl := h.len
  have hs := h.sing
  unfold r18_Single singleS
  simp only [cond_or, Option.bind_some, rown_eq (N := N) (show q.Groups.length ≤ 900 by omega)]
  cases h1 : (decide (n < 1) || decide (n > 1000)) with
  | true => rfl
  | false =>
    simp only [Bool.or_eq_false_iff, decide_eq_false_iff_not] at h1
    rw [wrap64 (by omega) (by omega)]
    cases decide (q.Singles + n > 10000) <;> rfl
theorem rseat_eq {q : Queue} (h : QOk q) {seats : Int} (h1 : 1 ≤ seats) (h2 : seats ≤ 16) : r18_Seat N q seats = some ((seatS q seats).1, (seatS q seats).2, 0) := by
  have hl := h.len
  have hs := h.sing
  unfold r18_Seat
  have c0 : (decide (seats < 1) || decide (seats > 16)) = false := by simp only [Bool.or_eq_false_iff, decide_eq_false_iff_not]; omega
  simp only [cond_or, Option.bind_some, c0, cond_false, rown_eq (N := N) (show q.Groups.length ≤ 900 by omega), Bool.true_and]
  have sb : ∀ (l : List Int) (k : Int), (∀ g, g ∈ l → 1 ≤ g ∧ g ≤ 16) → 0 ≤ k → 0 ≤ (seatL l k).2 ∧ (seatL l k).2 ≤ k := by
    intro l
    induction l with
    | nil => intro k _ hk; exact ⟨hk, Int.le_refl _⟩
    | cons g r ih =>
      intro k hg hk
      unfold seatL
      cases hc : decide (g ≤ k) with
      | false => exact ⟨hk, Int.le_refl _⟩
      | true =>
        rw [decide_eq_true_eq] at hc
        have g1 := hg g (List.mem_cons_self ..)
        have := ih (k - g) (fun x hx => hg x (List.mem_cons_of_mem _ hx)) (by omega)
        rw [cond_true]
        omega
  have hrest : ∀ gs, q.Groups = gs → ((whileF N
                  (fun (p6 : Int × Queue) =>
                    (bif decide ((↑p6.snd.Groups.length : Int) > (0 : Int)) then
                          bif decide ((0 : Int) < (↑p6.snd.Groups.length : Int)) then
                            some (decide (p6.snd.Groups.getD (0 : Nat) (0 : Int) ≤ p6.fst))
                          else none
                        else some false).bind
                      fun (r7 : Bool) =>
                      bif r7 then
                        bif decide ((0 : Int) < (↑p6.snd.Groups.length : Int)) then
                          bif decide ((1 : Int) ≤ (↑p6.snd.Groups.length : Int)) then
                            some
                              (Sum.inl
                                (IntKind.i64.wrap (p6.fst - p6.snd.Groups.getD (0 : Nat) (0 : Int)),
                                  Queue.mk (List.drop (1 : Nat) p6.snd.Groups) p6.snd.Singles))
                          else none
                        else none
                      else some (Sum.inr p6))
                  (seats, Queue.mk gs q.Singles)).bind
              fun (r8 : Int × Queue) =>
              (bif decide (r8.snd.Singles > r8.fst) then some r8.fst else some r8.snd.Singles).bind fun (r9 : Int) =>
                some
                  (Queue.mk r8.snd.Groups (IntKind.i64.wrap (r8.snd.Singles - r9)),
                    IntKind.i64.wrap (IntKind.i64.wrap (seats - r8.fst) + r9), (0 : Int))) = some ((seatR q seats).1, (seatR q seats).2, 0) := fun gs hgs => by
    subst hgs
    refine (bind_while (r0 := ((seatL q.Groups seats).2, Queue.mk (seatL q.Groups seats).1 q.Singles)) (whileF_eq (fun i (st : Int × Queue) => st.2.Groups.length + i = q.Groups.length ∧ seatL st.2.Groups st.1 = seatL q.Groups seats ∧ 0 ≤ st.1 ∧ st.1 ≤ 16 ∧ st.2.Singles = q.Singles ∧ ∀ g, g ∈ st.2.Groups → 1 ≤ g ∧ g ≤ 16) q.Groups.length ⟨rfl, rfl, by simp only; omega, by simp only; omega, rfl, h.grp⟩ (fun i st hi hI => ?_) (fun st hI => ?_) (by omega))).trans ?_
    · obtain ⟨z, l, sg⟩ := st
      obtain ⟨a1, a2, a3, a4, a6, a5⟩ := hI
      simp only at a1 a2 a3 a4 a5 a6
      subst a6
      cases l with
      | nil => simp only [List.length_nil] at a1; omega
      | cons g l =>
        have hg := a5 g (List.mem_cons_self ..)
        have g1 : decide (((g :: l).length : Int) > 0) = true := by simp
        have g2 : decide ((0 : Int) < ((g :: l).length : Int)) = true := by simp
        have g3 : decide ((1 : Int) ≤ ((g :: l).length : Int)) = true := by simp only [List.length_cons, decide_eq_true_eq]; omega
        have g4 : (g :: l).getD 0 (0 : Int) = g := rfl
        simp only [g1, g2, g3, g4, cond_true, Option.bind_some]
        replace a2 : (bif decide (g ≤ z) then seatL l (z - g) else (g :: l, z)) = seatL q.Groups seats := a2
        cases hc : decide (g ≤ z) with
        | false =>
          rw [hc, cond_false] at a2
          exact .inr (by rw [cond_false, ← a2])
        | true =>
          rw [hc, cond_true] at a2
          rw [decide_eq_true_eq] at hc
          refine .inl ⟨(z - g, Queue.mk l q.Singles), ?_, ?_, a2, ?_, ?_, rfl, fun g' hg' => a5 g' (List.mem_cons_of_mem _ hg')⟩
          · rw [cond_true, wrap64 (by omega) (by omega)]; rfl
          · simp only [List.length_cons] at a1 ⊢; omega
          · simp only; omega
          · simp only; omega
    · obtain ⟨z, l, sg⟩ := st
      obtain ⟨a1, a2, a3, a4, a6, a5⟩ := hI
      simp only at a1 a2 a3 a4 a5 a6
      subst a6
      cases l with
      | nil => rw [← a2]; rfl
      | cons g l => simp only [List.length_cons] at a1; omega
    · have b := sb q.Groups seats h.grp (by omega)
      unfold seatR
      simp only
      have hmn : (bif decide (q.Singles > (seatL q.Groups seats).2) then some (seatL q.Groups seats).2 else some q.Singles) = some (min (seatL q.Groups seats).2 q.Singles) := by
        cases hc : decide (q.Singles > (seatL q.Groups seats).2) with
        | true => rw [decide_eq_true_eq] at hc; rw [cond_true, Int.min_eq_left (by omega)]
        | false => rw [decide_eq_false_iff_not] at hc; rw [cond_false, Int.min_eq_right (by omega)]
      rw [hmn, Option.bind_some]
      have hm : 0 ≤ min (seatL q.Groups seats).2 q.Singles ∧ min (seatL q.Groups seats).2 q.Singles ≤ (seatL q.Groups seats).2 ∧ min (seatL q.Groups seats).2 q.Singles ≤ q.Singles := by omega
      rw [wrap64 (z := q.Singles - min (seatL q.Groups seats).2 q.Singles) (by omega) (by omega), wrap64 (z := seats - (seatL q.Groups seats).2) (by omega) (by omega), wrap64 (by omega) (by omega)]
      have e5 : seats - (seatL q.Groups seats).2 + min (seatL q.Groups seats).2 q.Singles = seats - ((seatL q.Groups seats).2 - min (seatL q.Groups seats).2 q.Singles) := by omega
      rw [e5]
  unfold seatS
  obtain ⟨gs, sg⟩ := q
  cases gs with
  | nil => exact hrest [] rfl
  | cons g r =>
    have hgr := h.grp g (List.mem_cons_self ..)
    have g1 : decide (((g :: r).length : Int) > 0) = true := by simp
    have g2 : decide ((0 : Int) < ((g :: r).length : Int)) = true := by simp
    have g4 : (g :: r).getD 0 (0 : Int) = g := rfl
    simp only [g1, g2, g4, cond_true, Option.bind_some]
    cases hc : decide (g > seats) with
    | true =>
      rw [decide_eq_true_eq] at hc
      simp only [cond_true]
      rw [wrap64 (by omega) (by omega)]
      rfl
    | false =>
      simp only [cond_false]
      exact hrest (g :: r) rfl
/-! checklist -/
omit hN in
theorem rin_eq (x a b : Int) : r19_in N x a b = some (decide (a ≤ x) && decide (x ≤ b)) := by
  unfold r19_in
  simp only [cond_and, Option.bind_some]
theorem rhas_eq (l : List Int) (hl : l.length ≤ 900) (x : Int) : r19_Has N l x = some (hasI l x) := by
  unfold r19_Has
  rw [search (fun i => l.getD i 0 == x) (fun _ => true) () l.length (by omega) (fun i hi => ?_) (by simp), hasI_fst]
  · have e : fst (fun i => l.getD i 0 == x) l.length = fst (fun i => x == l.getD i 0) l.length := fst_congr fun i _ => by
      rw [Bool.eq_iff_iff, beq_iff_eq, beq_iff_eq]
      exact eq_comm
    rw [e]
    cases fst (fun i => x == l.getD i 0) l.length <;> rfl
  · simp only [dlt hi, dge, Bool.and_self, cond_true, Int.toNat_natCast, wrapN (show i < 9223372036854775807 by omega)]
theorem riright_eq (c : Checklist) : r19_Right N c = some (rightC c) := by
  have nb : ∀ x a b : Int, (!(decide (a ≤ x) && decide (x ≤ b))) = (decide (x < a) || decide (x > b)) := fun x a b => by
    rw [Bool.eq_iff_iff]
    simp only [Bool.or_eq_true, Bool.not_eq_true', Bool.and_eq_false_iff, decide_eq_true_eq, decide_eq_false_iff_not]
    omega
  unfold r19_Right rightC
  simp only [cond_or, Option.bind_some, rin_eq, nb]
  cases h1 : (decide ((c.Items.length : Int) > 64) || decide ((c.Signs.length : Int) > 200)) with
  | true => rfl
  | false =>
    simp only [Bool.or_eq_false_iff, decide_eq_false_iff_not] at h1
    simp only [cond_false]
    cases h2 : (decide (c.Every < 1) || decide (c.Every > 604800)) with
    | true => rfl
    | false =>
      simp only [cond_false]
      rw [search (fun i => errI c.Items i != 0) (fun i => errI c.Items i) () c.Items.length (by omega) (fun i hi => ?_) (by simp)]
      · cases fst (fun i => errI c.Items i != 0) c.Items.length with
        | some i => rfl
        | none =>
          simp only [sres, Option.bind_some, Sum.elim_inl]
          rw [search (fun i => errG c.Items c.Signs i != 0) (fun i => errG c.Items c.Signs i) () c.Signs.length (by omega) (fun i hi => ?_) (by simp)]
          · cases fst (fun i => errG c.Items c.Signs i != 0) c.Signs.length <;> rfl
          · have e4 : (bif decide ((i : Int) > 0) then bif decide ((0 : Int) ≤ IntKind.i64.wrap ((i : Int) - 1)) && decide (IntKind.i64.wrap ((i : Int) - 1) < (c.Signs.length : Int)) then some (decide ((c.Signs.getD i z_Sign).At < (c.Signs.getD (IntKind.i64.wrap ((i : Int) - 1)).toNat z_Sign).At)) else none else some false) = some (decide (0 < i) && decide ((c.Signs.getD i z_Sign).At < (c.Signs.getD (i - 1) z_Sign).At)) := by
              cases i with
              | zero => rfl
              | succ i =>
                have c1 : decide (((i + 1 : Nat) : Int) > 0) = true := by simp only [decide_eq_true_eq]; omega
                have c2 : decide (0 < i + 1) = true := by simp
                rw [c1, c2, wrapS (show i < 9223372036854775807 by omega)]
                simp only [dge, dlt (show i < c.Signs.length by omega), Bool.and_self, cond_true, Int.toNat_natCast, Nat.add_sub_cancel, Bool.true_and]
            simp only [dlt hi, dge, Bool.and_self, cond_true, Int.toNat_natCast, rhas_eq hN c.Items (by omega), Option.bind_some, e4, wrapN (show i < 9223372036854775807 by omega)]
            unfold errG
            cases hasI c.Items (c.Signs.getD i z_Sign).Item <;> try rfl
            cases (decide ((c.Signs.getD i z_Sign).By < 1) || decide ((c.Signs.getD i z_Sign).By > 9999)) <;> try rfl
            cases (decide ((c.Signs.getD i z_Sign).At < 0) || decide ((c.Signs.getD i z_Sign).At > 20000000)) <;> try rfl
            cases (decide (0 < i) && decide ((c.Signs.getD i z_Sign).At < (c.Signs.getD (i - 1) z_Sign).At)) <;> rfl
      · simp only [dlt hi, dge, dle (Nat.le_of_lt hi), Bool.and_self, cond_true, Int.toNat_natCast, rhas_eq hN (c.Items.take i) (by simp; omega), Option.bind_some, wrapN (show i < 9223372036854775807 by omega)]
        unfold errI
        cases (decide (c.Items.getD i 0 < 1) || decide (c.Items.getD i 0 > 9999)) <;> try rfl
        cases hasI (c.Items.take i) (c.Items.getD i 0) <;> rfl
theorem rsign_eq {c : Checklist} (h : CkOk c) (it b t : Int) : r19_Sign N c it b t = some (signC c it b t) := by
  have h1 := h.items
  have h2 := h.signs
  have fl : ∀ i, ((c.Signs.take i).filter fun g => g.Item != it).length ≤ 200 := fun i => by
    have a : ((c.Signs.take i).filter fun g => g.Item != it).length ≤ (c.Signs.take i).length := List.length_filter_le _ _
    simp only [List.length_take] at a
    omega
  unfold r19_Sign
  refine (bindT (fun i => ((i : Int), Checklist.mk (c.Items.take i) c.Every [])) rfl (Checklist.mk c.Items c.Every []) c.Items.length (show c.Items.length < N by omega) (fun i hi => ?_) ?_).trans ?_
  · have tl : (c.Items.take i).length = i := by rw [List.length_take]; omega
    have hb : ∀ y : Int, decide (((c.Items.take i).length + [y].length) * 8 ≤ 140737488355328) = true := fun y => by rw [tl, decide_eq_true_eq, List.length_singleton]; omega
    simp only [dlt hi, dge, Bool.and_self, cond_true, Int.toNat_natCast, Option.bind_some, hb, wrapC (show i < 9223372036854775807 by omega), take_getD c.Items i 0 hi]
  · simp only [dnlt, cond_false, List.take_length]
  refine (bindT (fun i => ((i : Int), Checklist.mk c.Items c.Every ((c.Signs.take i).filter fun g => g.Item != it))) rfl (Checklist.mk c.Items c.Every (c.Signs.filter fun g => g.Item != it)) c.Signs.length (show c.Signs.length < N by omega) (fun i hi => ?_) ?_).trans ?_
  · have f := fl i
    have hb : ∀ g : Sign, decide ((((c.Signs.take i).filter fun g => g.Item != it).length + [g].length) * 24 ≤ 140737488355328) = true := fun g => by simp only [List.length_singleton, decide_eq_true_eq]; omega
    simp only [dlt hi, dge, Bool.and_self, cond_true, Int.toNat_natCast, Option.bind_some, hb, wrapC (show i < 9223372036854775807 by omega), take_getD c.Signs i z_Sign hi, List.filter_append]
    cases hc : ((c.Signs.getD i z_Sign).Item != it) with
    | true => simp only [cond_true, Option.bind_some, List.filter_cons, hc, if_true, List.filter_nil]
    | false => simp only [cond_false, Option.bind_some, List.filter_cons, hc, List.filter_nil, Bool.false_eq_true, if_false, List.append_nil]
  · simp only [dnlt, cond_false, List.take_length]
  · have f := fl c.Signs.length
    rw [List.take_length] at f
    have hb : decide (((c.Signs.filter fun g => g.Item != it).length + [Sign.mk it b t].length) * 24 ≤ 140737488355328) = true := by simp only [List.length_singleton, decide_eq_true_eq]; omega
    simp only [Option.bind_some, hb, cond_true, riright_eq hN]
    unfold signC signC0
    cases (rightC (Checklist.mk c.Items c.Every ((c.Signs.filter fun g => g.Item != it) ++ [Sign.mk it b t])) != 0) <;> rfl
omit hN in
def endF (c : Checklist) (it t : Int) : Nat → Int
  | 0 => t
  | i + 1 => bif countC c t it (c.Signs.getD i z_Sign) then max (endF c it t i) ((c.Signs.getD i z_Sign).At + c.Every) else endF c it t i
omit hN in
theorem endF_spec (c : Checklist) (it t : Int) (i : Nat) : t ≤ endF c it t i ∧ (endF c it t i = t ↔ fst (fun j => countC c t it (c.Signs.getD j z_Sign)) i = none) := by
  induction i with
  | zero => exact ⟨Int.le_refl _, fun _ => rfl, fun _ => rfl⟩
  | succ i ih =>
    unfold endF
    cases hc : countC c t it (c.Signs.getD i z_Sign) with
    | true =>
      have hc' := hc
      unfold countC at hc'
      simp only [Bool.and_eq_true, decide_eq_true_eq] at hc'
      rw [cond_true]
      refine ⟨by omega, fun h => by omega, fun h => ?_⟩
      have := fst_none.1 h i (by omega)
      simp only [hc] at this
      cases this
    | false =>
      rw [cond_false]
      refine ⟨ih.1, ih.2.trans ⟨fun h => ?_, fun h => ?_⟩⟩
      · rw [fst_none] at h ⊢
        intro j hj
        by_cases hji : j = i
        · rw [hji]; exact hc
        · exact h j (by omega)
      · rw [fst_none] at h ⊢
        exact fun j hj => h j (by omega)
theorem rend_eq {c : Checklist} (h : CkOk c) (it t : Int) : r19_end N c it t = some (endF c it t c.Signs.length) := by
  have h2 := h.signs
  have he := h.every
  unfold r19_end
  refine (bindT (fun i => (endF c it t i, (i : Int))) rfl (endF c it t c.Signs.length) c.Signs.length (show c.Signs.length < N by omega) (fun i hi => ?_) ?_).trans rfl
  · have q := h.at' i hi
    simp only [dlt hi, dge, Bool.and_self, cond_true, Int.toNat_natCast, wrap64 (z := (c.Signs.getD i z_Sign).At + c.Every) (by omega) (by omega), cond_and, Option.bind_some, wrapC (show i < 9223372036854775807 by omega)]
    show _ = some (Sum.inl (bif countC c t it (c.Signs.getD i z_Sign) then max (endF c it t i) ((c.Signs.getD i z_Sign).At + c.Every) else endF c it t i, ((i + 1 : Nat) : Int)))
    unfold countC
    cases ((c.Signs.getD i z_Sign).Item == it && (decide ((c.Signs.getD i z_Sign).At ≤ t) && decide (t < (c.Signs.getD i z_Sign).At + c.Every))) <;> rfl
  · simp only [dnlt, cond_false]
theorem ropen_eq {c : Checklist} (h : CkOk c) (t : Int) : r19_Open N c t = some (openC c t) := by
  have h1 := h.items
  have hany : ∀ it, (!c.Signs.any (countC c t it)) = (endF c it t c.Signs.length == t) := fun it => by
    have sp := (endF_spec c it t c.Signs.length).2
    cases hf : fst (fun i => countC c t it (c.Signs.getD i z_Sign)) c.Signs.length with
    | some i =>
      obtain ⟨a, b, _⟩ := fst_some.1 hf
      rw [List.any_eq_true.2 ⟨_, getD_mem c.Signs i z_Sign a, b⟩]
      have : ¬ endF c it t c.Signs.length = t := fun h => by rw [sp.1 h] at hf; cases hf
      rw [Bool.not_true, eq_comm, beq_eq_false_iff_ne]
      exact this
    | none =>
      rw [List.any_eq_false.2 fun y hy => ?_, sp.2 hf, beq_self_eq_true]
      · rfl
      · obtain ⟨i, hi, rfl⟩ := mem_getD z_Sign hy
        have := fst_none.1 hf i hi
        rw [this]
        decide
  have fl : ∀ i, ((c.Items.take i).filter fun it => !c.Signs.any (countC c t it)).length ≤ 64 := fun i => by
    have a : ((c.Items.take i).filter fun it => !c.Signs.any (countC c t it)).length ≤ (c.Items.take i).length := List.length_filter_le _ _
    simp only [List.length_take] at a
    omega
  unfold r19_Open
  refine (bindT (fun i => (((c.Items.take i).filter fun it => !c.Signs.any (countC c t it)), (i : Int))) rfl (openC c t) c.Items.length (show c.Items.length < N by omega) (fun i hi => ?_) ?_).trans rfl
  · have f := fl i
    have hb : ∀ g : Int, decide ((((c.Items.take i).filter fun it => !c.Signs.any (countC c t it)).length + [g].length) * 8 ≤ 140737488355328) = true := fun g => by simp only [List.length_singleton, decide_eq_true_eq]; omega
    simp only [dlt hi, dge, Bool.and_self, cond_true, Int.toNat_natCast, rend_eq hN h, Option.bind_some, hb, wrapC (show i < 9223372036854775807 by omega), take_getD c.Items i 0 hi, List.filter_append, List.filter_cons, List.filter_nil]
    rw [← hany (c.Items.getD i 0)]
    cases (!c.Signs.any (countC c t (c.Items.getD i 0))) with
    | true => simp only [cond_true, Option.bind_some, if_true]
    | false => simp only [cond_false, Option.bind_some, Bool.false_eq_true, if_false, List.append_nil]
  · simp only [dnlt, cond_false, List.take_length]
    rfl
theorem rdone_eq {c : Checklist} (h : CkOk c) (t : Int) : r19_Done N c t = some (doneC c t) := by
  unfold r19_Done doneC
  rw [ropen_eq hN h]
  rfl
end
end Go.Proofs.YthjmbcnohgaihaaGreat

