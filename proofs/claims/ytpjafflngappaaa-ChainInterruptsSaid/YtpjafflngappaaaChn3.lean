/- The chain: the operations, as they stand in the program and as the document says. No condition. -/
import Derived.Test.YtpjafflngappaaaChn1
namespace Go.Proofs.Ytpjafflngappaaa
open Go.Cm Go.Proofs

def idx (c : Chain) (id : Int) : Option Nat := fst (fun i => (c.Contacts.getD i z_Contact).ID == id) c.Contacts.length
def breakO (o : Contact) : Contact := ⟨o.ID, o.Critical, false, true, o.Until⟩
def makeO (o : Contact) : Contact := ⟨o.ID, o.Critical, true, o.Latched, o.Until⟩
def clearO (o : Contact) : Contact := ⟨o.ID, o.Critical, o.Closed, false, o.Until⟩
def untilO (t : Int) (o : Contact) : Contact := ⟨o.ID, o.Critical, o.Closed, o.Latched, t⟩
def expO (t : Int) (o : Contact) : Contact := bif decide (o.Until ≤ t) then untilO 0 o else o
def at1 (c : Chain) (i : Nat) (f : Contact → Contact) : Chain := ⟨c.Contacts.set i (f (c.Contacts.getD i z_Contact)), c.Key⟩
def expS (c : Chain) (t : Int) : Chain := ⟨c.Contacts.map (expO t), c.Key⟩
def faultO (t : Int) (o : Contact) : Bool := (o.Latched || !o.Closed) && decide (t ≥ o.Until)
def faultsS (c : Chain) (t : Int) : List Int := (c.Contacts.filter (faultO t)).map (·.ID)
def breakS (c : Chain) (id : Int) : Chain × Int := match idx c id with
  | none => (z_Chain, 8)
  | some i => (at1 c i breakO, 0)
def makeS (c : Chain) (id : Int) : Chain × Int := match idx c id with
  | none => (z_Chain, 8)
  | some i => (at1 c i makeO, 0)
def clearS (c : Chain) (id by' : Int) : Chain × Int := match idx c id with
  | none => (z_Chain, 8)
  | some i => bif !(decide (1 ≤ by') && decide (by' ≤ 9999)) then (z_Chain, 17) else bif !(c.Contacts.getD i z_Contact).Closed then (z_Chain, 10) else (at1 c i clearO, 0)
def takeS (c : Chain) (by' : Int) : Chain × Int :=
  bif !(decide (1 ≤ by') && decide (by' ≤ 9999)) then (z_Chain, 17) else bif c.Key != 0 && c.Key != by' then (z_Chain, 15) else bif c.Key == 0 then (⟨c.Contacts, by'⟩, 0) else (⟨c.Contacts.map (untilO 0), 0⟩, 0)
def bypassS (c : Chain) (id by' u : Int) : Chain × Int := match idx c id with
  | none => (z_Chain, 8)
  | some i => bif by' == 0 || by' != c.Key then (z_Chain, 17) else bif (c.Contacts.getD i z_Contact).Critical then (z_Chain, 13)
    else bif (fst (fun k => k != i && (c.Contacts.getD k z_Contact).Until != 0) c.Contacts.length).isSome then (z_Chain, 15)
    else bif decide (u < 1) || decide (u > 20000000) then (z_Chain, 2) else (at1 c i (untilO u), 0)
theorem idx_some {c : Chain} {id : Int} {i : Nat} (h : idx c id = some i) : i < c.Contacts.length ∧ (c.Contacts.getD i z_Contact).ID = id := by
  unfold idx at h
  rw [fst_some] at h
  exact ⟨h.1, by simpa using h.2.1⟩

section
variable {N : Nat} (hN : 1000 < N) {c : Chain} (hl : c.Contacts.length ≤ 1000)
include hN hl

theorem find_idx (id : Int) : chain_find N c id = some (oi (idx c id)) := find_eq hN c id hl
theorem index_idx (id : Int) : r16_index N c.Contacts id = some (oi (idx c id)) := index_eq hN c.Contacts id hl
theorem break_eq (id : Int) : chain_Break N c id = some (breakS c id) := by
  unfold chain_Break breakS
  rw [find_idx hN hl]
  cases h : idx c id with
  | none => rfl
  | some i =>
    have hi := (idx_some h).1
    simp only [oi, Option.bind_some, Int.toNat_natCast, clone_eq c hl, List.length_set, getD_set _ _ _ _ _ hi, if_true, List.set_set]
    have h1 : decide ((i : Int) < (c.Contacts.length : Int)) = true := by simp [hi]
    have h2 : decide ((i : Int) < 0) = false := by simp
    have h3 : decide ((0 : Int) ≤ (i : Int)) = true := by simp
    rw [h1, h2, h3]
    rfl
theorem make_eq (id : Int) : chain_Make N c id = some (makeS c id) := by
  unfold chain_Make makeS
  rw [find_idx hN hl]
  cases h : idx c id with
  | none => rfl
  | some i =>
    have hi := (idx_some h).1
    simp only [oi, Option.bind_some, Int.toNat_natCast, clone_eq c hl]
    have h1 : decide ((i : Int) < (c.Contacts.length : Int)) = true := by simp [hi]
    have h2 : decide ((i : Int) < 0) = false := by simp
    have h3 : decide ((0 : Int) ≤ (i : Int)) = true := by simp
    rw [h1, h2, h3]
    rfl
theorem clear_eq (id by' : Int) : chain_Clear N c id by' = some (clearS c id by') := by
  unfold chain_Clear clearS
  rw [find_idx hN hl]
  cases h : idx c id with
  | none => rfl
  | some i =>
    have hi := (idx_some h).1
    simp only [oi, Option.bind_some, Int.toNat_natCast, clone_eq c hl, isPerson_eq]
    have h1 : decide ((i : Int) < (c.Contacts.length : Int)) = true := by simp [hi]
    have h2 : decide ((i : Int) < 0) = false := by simp
    have h3 : decide ((0 : Int) ≤ (i : Int)) = true := by simp
    rw [h1, h2, h3]
    cases (decide (1 ≤ by') && decide (by' ≤ 9999)) <;> cases h4 : (c.Contacts.getD i z_Contact).Closed <;> first | rfl | (simp only [at1, clearO, h4]; rfl) | skip
theorem with_eq (i : Int) (x : Contact) (T : List Contact) (hT : T.length = c.Contacts.length) (h : ∀ k, k < c.Contacts.length → T.getD k z_Contact = if (k : Int) = i then x else c.Contacts.getD k z_Contact) : r16_with N c i x = some ⟨T, c.Key⟩ := by
  unfold r16_with
  refine (bind_while (r0 := (⟨T, c.Key⟩ : Chain)) (whileF_eq (fun k s => s = ((k : Int), (⟨T.take k, c.Key⟩ : Chain))) c.Contacts.length (by simp [mixd_zero]) (fun k s hk hI => ?_) (fun s hI => ?_) (by omega))).trans ?_
  · subst hI
    left
    have h1 : decide ((k : Int) < (c.Contacts.length : Int)) = true := by simp [hk]
    have h3 : decide ((0 : Int) ≤ (k : Int)) = true := by simp
    have h4 : ∀ y : Contact, decide (((T.take k).length + [y].length) * 24 ≤ 140737488355328) = true := fun y => by
      have : (T.take k).length ≤ k := by simp; omega
      have hy : [y].length = 1 := rfl
      simp only [decide_eq_true_eq, hy]
      omega
    refine ⟨((k + 1 : Nat) , ⟨T.take (k + 1), c.Key⟩), ?_, rfl⟩
    rw [take_getD T k z_Contact (by omega), h k hk]
    simp only [h1, h3, h4, cond_true, Int.toNat_natCast, Option.bind_some, wrapN (show k < 9223372036854775807 by omega), Bool.and_self]
    by_cases hki : (k : Int) = i
    · simp [hki]
    · have hb : ((k : Int) == i) = false := by simpa using hki
      simp [hki, hb]
  · subst hI
    simp [List.take_of_length_le (Nat.le_of_eq hT)]
  · rfl
theorem with_at (i : Nat) (hi : i < c.Contacts.length) (f : Contact → Contact) : r16_with N c i (f (c.Contacts.getD i z_Contact)) = some (at1 c i f) := by
  refine with_eq hN hl i _ _ (by simp) fun k hk => ?_
  rw [getD_set _ _ _ _ _ hi]
  by_cases h : i = k
  · simp [h]
  · rw [if_neg h, if_neg (by omega)]
theorem with_none : r16_with N c (-1) z_Contact = some c :=
  with_eq hN hl (-1) _ _ rfl fun k hk => by rw [if_neg (by omega)]
theorem rbreak_eq (id : Int) : r16_Break N c id = some (breakS c id) := by
  unfold r16_Break breakS
  rw [index_idx hN hl]
  cases h : idx c id with
  | none => rfl
  | some i =>
    have hi := (idx_some h).1
    simp only [oi, Option.bind_some, Int.toNat_natCast]
    have h1 : decide ((i : Int) < (c.Contacts.length : Int)) = true := by simp [hi]
    have h2 : decide ((i : Int) < 0) = false := by simp
    have h3 : decide ((0 : Int) ≤ (i : Int)) = true := by simp
    have hw := with_at hN hl i hi breakO
    unfold breakO at hw
    rw [h1, h2, h3, hw]
    rfl
theorem rmake_eq (id : Int) : r16_Make N c id = some (makeS c id) := by
  unfold r16_Make makeS
  rw [index_idx hN hl]
  cases h : idx c id with
  | none => rfl
  | some i =>
    have hi := (idx_some h).1
    simp only [oi, Option.bind_some, Int.toNat_natCast]
    have h1 : decide ((i : Int) < (c.Contacts.length : Int)) = true := by simp [hi]
    have h2 : decide ((i : Int) < 0) = false := by simp
    have h3 : decide ((0 : Int) ≤ (i : Int)) = true := by simp
    have hw := with_at hN hl i hi makeO
    unfold makeO at hw
    rw [h1, h2, h3, hw]
    rfl
theorem rclear_eq (id by' : Int) : r16_Clear N c id by' = some (clearS c id by') := by
  unfold r16_Clear clearS
  rw [index_idx hN hl]
  cases h : idx c id with
  | none => rfl
  | some i =>
    have hi := (idx_some h).1
    simp only [oi, Option.bind_some, Int.toNat_natCast, in_eq]
    have h1 : decide ((i : Int) < (c.Contacts.length : Int)) = true := by simp [hi]
    have h2 : decide ((i : Int) < 0) = false := by simp
    have h3 : decide ((0 : Int) ≤ (i : Int)) = true := by simp
    have hw := with_at hN hl i hi clearO
    unfold clearO at hw
    rw [h1, h2, h3, hw]
    cases (decide (1 ≤ by') && decide (by' ≤ 9999)) <;> cases (c.Contacts.getD i z_Contact).Closed <;> rfl
theorem expire_eq (t : Int) : chain_Expire N c t = some (expS c t) := by
  unfold chain_Expire expS
  rw [clone_eq c hl, Option.bind_some]
  have hT : (c.Contacts.map (expO t)).length = c.Contacts.length := by simp
  refine (bind_while (r0 := c.Contacts.map (expO t)) (whileF_eq (fun k s => s = ((k : Int), mixd (c.Contacts.map (expO t)) c.Contacts k)) c.Contacts.length (by simp [mixd_zero]) (fun k s hk hI => ?_) (fun s hI => ?_) (by omega))).trans ?_
  · subst hI
    left
    have h1 : decide ((k : Int) < (c.Contacts.length : Int)) = true := by simp [hk]
    have h3 : decide ((0 : Int) ≤ (k : Int)) = true := by simp
    refine ⟨_, ?_, rfl⟩
    have hg := getD_map (expO t) c.Contacts k z_Contact z_Contact hk
    simp only [Int.toNat_natCast, mixd_len hT, mixd_getD hT hk, h1, h3, Bool.and_self, cond_true, wrapN (show k < 9223372036854775807 by omega)]
    by_cases hu : (c.Contacts.getD k z_Contact).Until ≤ t
    · rw [mixd_set hT hk _ z_Contact (by rw [hg]; simp only [expO, hu, decide_true, cond_true]; rfl)]
      simp only [hu, decide_true, cond_true, Option.bind_some]
      rfl
    · rw [← mixd_same hT hk z_Contact (by rw [hg]; simp only [expO, hu, decide_false, cond_false])]
      simp only [hu, decide_false, cond_false, Option.bind_some]
      rfl
  · subst hI
    simp [mixd_all hT]
  · rfl
theorem rexpire_eq (t : Int) : r16_Expire N c t = some (expS c t) := by
  unfold r16_Expire expS
  have hT : (c.Contacts.map (expO t)).length = c.Contacts.length := by simp
  refine (bind_while (r0 := (⟨c.Contacts.map (expO t), c.Key⟩ : Chain)) (whileF_eq (fun k s => s = ((k : Int), (⟨(c.Contacts.map (expO t)).take k, c.Key⟩ : Chain))) c.Contacts.length (by simp [mixd_zero]) (fun k s hk hI => ?_) (fun s hI => ?_) (by omega))).trans ?_
  · subst hI
    left
    have h1 : decide ((k : Int) < (c.Contacts.length : Int)) = true := by simp [hk]
    have h3 : decide ((0 : Int) ≤ (k : Int)) = true := by simp
    have h4 : ∀ y : Contact, decide ((((c.Contacts.map (expO t)).take k).length + [y].length) * 24 ≤ 140737488355328) = true := fun y => by
      have : ((c.Contacts.map (expO t)).take k).length ≤ k := by simp; omega
      have hy : [y].length = 1 := rfl
      simp only [decide_eq_true_eq, hy]
      omega
    refine ⟨((k + 1 : Nat) , ⟨(c.Contacts.map (expO t)).take (k + 1), c.Key⟩), ?_, rfl⟩
    have hg := getD_map (expO t) c.Contacts k z_Contact z_Contact hk
    rw [take_getD _ k z_Contact (by omega), hg]
    simp only [h1, h3, h4, cond_true, Int.toNat_natCast, Option.bind_some, wrapN (show k < 9223372036854775807 by omega), Bool.and_self]
    by_cases hu : (c.Contacts.getD k z_Contact).Until ≤ t
    · simp only [hu, decide_true, cond_true, Option.bind_some, expO, h4]; rfl
    · simp only [hu, decide_false, cond_false, Option.bind_some, expO, h4]; rfl
  · subst hI
    simp [List.take_of_length_le (Nat.le_of_eq hT)]
  · rfl
omit hN hl in
theorem faults_step (t : Int) (k : Nat) (hk : k < c.Contacts.length) : ((c.Contacts.take (k + 1)).filter (faultO t)).map (·.ID) = bif faultO t (c.Contacts.getD k z_Contact) then ((c.Contacts.take k).filter (faultO t)).map (·.ID) ++ [(c.Contacts.getD k z_Contact).ID] else ((c.Contacts.take k).filter (faultO t)).map (·.ID) := by
  rw [take_getD _ k z_Contact hk, List.filter_append, List.map_append]
  cases h : faultO t (c.Contacts.getD k z_Contact) <;> simp only [List.filter_cons, h] <;> simp
omit hN in
theorem faults_body (t : Int) (k : Nat) (hk : k < c.Contacts.length) : ((((c.Contacts.take k).filter (faultO t)).map (·.ID)).length + 1) * 8 ≤ 140737488355328 := by
  have h1 : ((c.Contacts.take k).filter (faultO t)).length ≤ (c.Contacts.take k).length := List.length_filter_le _ _
  simp only [List.length_map, List.length_take] at *
  omega
theorem faults_eq (t : Int) : chain_Faults N c t = some (faultsS c t) := by
  unfold chain_Faults faultsS
  refine (bind_while (r0 := (c.Contacts.filter (faultO t)).map (·.ID)) (whileF_eq (fun k s => s = (((c.Contacts.take k).filter (faultO t)).map (·.ID), (k : Int))) c.Contacts.length (by simp [mixd_zero]) (fun k s hk hI => ?_) (fun s hI => ?_) (by omega))).trans ?_
  · subst hI
    left
    have h1 : decide ((k : Int) < (c.Contacts.length : Int)) = true := by simp [hk]
    have h3 : decide ((0 : Int) ≤ (k : Int)) = true := by simp
    have h4 : ∀ y : Int, decide (((((c.Contacts.take k).filter (faultO t)).map (·.ID)).length + [y].length) * 8 ≤ 140737488355328) = true := fun y => by
      simp only [decide_eq_true_eq]
      exact faults_body hl t k hk
    refine ⟨(((c.Contacts.take (k + 1)).filter (faultO t)).map (·.ID), (k + 1 : Nat)), ?_, rfl⟩
    rw [faults_step t k hk]
    simp only [h1, h3, h4, cond_true, Int.toNat_natCast, Option.bind_some, wrapN (show k < 9223372036854775807 by omega), Bool.and_self]
    unfold faultO
    cases h5 : (c.Contacts.getD k z_Contact).Latched <;> cases h6 : (c.Contacts.getD k z_Contact).Closed <;> cases h7 : decide (t ≥ (c.Contacts.getD k z_Contact).Until) <;> rfl
  · subst hI
    simp
  · rfl
theorem rfaults_eq (t : Int) : r16_Faults N c t = some (faultsS c t) := faults_eq hN hl t
theorem same_refl : r16_Same N c c = some true := by
  unfold r16_Same
  rw [through () c.Contacts.length (by omega) (fun i hi => ?_) (by simp)]
  · simp
  · have h1 : decide ((i : Int) < (c.Contacts.length : Int)) = true := by simp [hi]
    have h3 : decide ((0 : Int) ≤ (i : Int)) = true := by simp
    simp only [h1, h3, beq_self_eq_true, Bool.and_self, cond_true, Bool.not_true, cond_false, wrapN (show i < 9223372036854775807 by omega)]
omit hl in
theorem sameInts_refl (l : List Int) (hl : l.length ≤ 1000) : r16_SameInts N l l = some true := by
  unfold r16_SameInts
  rw [through () l.length (by omega) (fun i hi => ?_) (by simp)]
  · simp
  · have h1 : decide ((i : Int) < (l.length : Int)) = true := by simp [hi]
    have h3 : decide ((0 : Int) ≤ (i : Int)) = true := by simp
    simp only [h1, h3, bne_self_eq_false, Bool.and_self, cond_true, cond_false, wrapN (show i < 9223372036854775807 by omega)]
end
end Go.Proofs.Ytpjafflngappaaa
