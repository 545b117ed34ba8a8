/- The lift: what the functions of the chain compute, in plain words (taken out of the texts on the chain). No condition. -/
import Derived.Test.YthjmbcnohgaihaaFn6
import Derived.Test.YthjmbcnohgaihaaCmq
namespace Go.Proofs.Ythjmbcnohgaihaa.Ch
open Go.Cm Go.Proofs
set_option linter.unusedSectionVars false
structure Op where
  Kind : Int
  ID : Int
  By : Int
  Time : Int
section
variable {N : Nat}
theorem clone_eq (c : Chain) (hl : c.Contacts.length ≤ 1000) : chain_clone N c = some c := by
  unfold chain_clone sl_Clone_Contact
  have : (0 + c.Contacts.length) * 24 ≤ 140737488355328 := by omega
  simp only [this, decide_true, cond_true, Option.bind_some]
theorem isPerson_eq (x : Int) : chain_isPerson N x = some (decide (1 ≤ x) && decide (x ≤ 9999)) := by
  unfold chain_isPerson
  by_cases h : (1 : Int) ≤ x <;> simp [h]
end
def dup (l : List Contact) (i : Nat) : Bool := (fst (fun j => (l.getD j z_Contact).ID == (l.getD i z_Contact).ID) i).isSome
def byp (l : List Contact) (i : Nat) : Bool := (fst (fun j => (l.getD j z_Contact).Until != 0) i).isSome
def errO (o : Contact) (k : Int) (d b : Bool) : Int :=
  bif decide (o.ID < 1) || decide (o.ID > 9999) || decide (o.Until < 0) || decide (o.Until > 20000000) then 2
  else bif d then 7
  else bif !o.Closed && !o.Latched then 10
  else bif o.Critical && o.Until != 0 then 13
  else bif o.Until != 0 && (k == 0 || b) then 15 else 0
def errAt (c : Chain) (i : Nat) : Int := errO (c.Contacts.getD i z_Contact) c.Key (dup c.Contacts i) (byp c.Contacts i)
def rightS (c : Chain) : Int :=
  bif decide (c.Contacts.length > 32) then 4
  else bif decide (c.Key < 0) || decide (c.Key > 9999) then 2
  else match fst (fun i => errAt c i != 0) c.Contacts.length with
    | some i => errAt c i
    | none => 0
theorem find_lt (l : List Contact) (i : Nat) (hi : i < l.length) : decide (oi (fst (fun j => (l.getD j z_Contact).ID == (l.getD i z_Contact).ID) l.length) < (i : Int)) = dup l i := by
  unfold dup
  cases h : fst (fun j => (l.getD j z_Contact).ID == (l.getD i z_Contact).ID) i with
  | none =>
    rw [fst_none] at h
    have : fst (fun j => (l.getD j z_Contact).ID == (l.getD i z_Contact).ID) l.length = some i := fst_some.2 ⟨hi, by simp, h⟩
    rw [this]
    simp [oi]
  | some j =>
    rw [fst_some] at h
    have : fst (fun j => (l.getD j z_Contact).ID == (l.getD i z_Contact).ID) l.length = some j := fst_some.2 ⟨by omega, h.2⟩
    rw [this]
    simp [oi, h.1]
theorem take_fst (l : List Contact) (i : Nat) (hi : i < l.length) (p : Contact → Bool) : fst (fun j => p ((l.take i).getD j z_Contact)) (l.take i).length = fst (fun j => p (l.getD j z_Contact)) i := by
  have : (l.take i).length = i := by simp; omega
  rw [this]
  exact fst_congr fun j hj => by rw [getD_take _ _ _ _ hj]
theorem oi_nonneg (o : Option Nat) : decide (0 ≤ oi o) = o.isSome := by cases o <;> simp [oi] <;> omega
section
variable {N : Nat} (hN : 1000 < N)
include hN
theorem find_eq (c : Chain) (id : Int) (hl : c.Contacts.length ≤ 1000) : chain_find N c id = some (oi (fst (fun i => (c.Contacts.getD i z_Contact).ID == id) c.Contacts.length)) := by
  unfold chain_find
  rw [search (fun i => (c.Contacts.getD i z_Contact).ID == id) (fun i => (i : Int)) () c.Contacts.length (by omega) (fun i hi => ?_) (by simp)]
  · cases fst _ _ <;> rfl
  · simp [hi, wrapN (show i < 9223372036854775807 by omega)]
theorem rightContact_eq (c : Chain) (hl : c.Contacts.length ≤ 1000) (i : Nat) (hi : i < c.Contacts.length) : chain_rightContact N c i = some (errAt c i) := by
  unfold chain_rightContact
  rw [Int.toNat_natCast]
  have hle : i ≤ c.Contacts.length := by omega
  have hs : whileF N (fun (p6 : Int) =>
      bif decide (p6 < (↑(List.take i c.Contacts).length : Int)) then
        bif decide ((0 : Int) ≤ p6) && decide (p6 < (↑(List.take i c.Contacts).length : Int)) then
          (chain_rightContact_1 N ((List.take i c.Contacts).getD p6.toNat z_Contact)).bind fun (r7 : Bool) =>
            bif r7 then some (Sum.inr (Sum.inr p6)) else some (Sum.inl (IntKind.i64.wrap (p6 + (1 : Int))))
        else none
      else some (Sum.inr (Sum.inl ()))) (0 : Int) = some (sres (fun j => (j : Int)) () (fst (fun j => (c.Contacts.getD j z_Contact).Until != 0) i)) := by
    have hlen : (c.Contacts.take i).length = i := by simp; omega
    rw [hlen]
    refine search _ _ _ i (by omega) (fun j hj => ?_) (by simp)
    have : (List.take i c.Contacts).getD j z_Contact = c.Contacts.getD j z_Contact := getD_take _ _ _ _ hj
    simp [hj, chain_rightContact_1, this, wrapN (show j < 9223372036854775807 by omega)]
  rw [hs, find_eq hN c _ hl]
  have hd := find_lt c.Contacts i hi
  have h1 : decide ((i : Int) < (c.Contacts.length : Int)) = true := by simp [hi]
  have h2 : decide ((i : Int) ≤ (c.Contacts.length : Int)) = true := by simp [hle]
  have h3 : decide ((0 : Int) ≤ (i : Int)) = true := by simp
  have hb : byp c.Contacts i = (fst (fun j => (c.Contacts.getD j z_Contact).Until != 0) i).isSome := rfl
  rw [h1, h2, h3, Option.bind_some, hd]
  unfold errAt errO
  rw [hb]
  generalize fst (fun j => (c.Contacts.getD j z_Contact).Until != 0) i = q
  generalize dup c.Contacts i = dd
  simp only [Bool.and_self, cond_true]
  generalize c.Contacts.getD i z_Contact = o
  cases decide (o.ID < 1) <;> cases decide (o.ID > 9999) <;> cases decide (o.Until < 0) <;> cases decide (o.Until > 20000000) <;> try rfl
  cases dd <;> try rfl
  cases o.Closed <;> cases o.Latched <;> try rfl
  all_goals
    cases o.Critical <;> cases hU : (o.Until != 0) <;> try rfl
    all_goals
      cases q <;> cases c.Key == 0 <;> simp [hU, sres]
theorem right_eq (c : Chain) : chain_Right N c = some (rightS c) := by
  unfold chain_Right rightS
  by_cases hl : c.Contacts.length > 32
  · have : (c.Contacts.length : Int) > 32 := by omega
    simp [hl, this]
  · have : ¬ (c.Contacts.length : Int) > 32 := by omega
    simp only [hl, this, decide_false, cond_false]
    cases decide (c.Key < 0) <;> cases decide (c.Key > 9999) <;> try rfl
    simp only [cond_false, Option.bind_some, Bool.or_self]
    rw [search (fun i => errAt c i != 0) (fun i => errAt c i) () c.Contacts.length (by omega) (fun i hi => ?_) (by simp)]
    · cases fst _ _ <;> rfl
    · rw [rightContact_eq hN c (by omega) i hi]
      simp [hi, wrapN (show i < 9223372036854775807 by omega)]
end
def idx (c : Chain) (id : Int) : Option Nat := fst (fun i => (c.Contacts.getD i z_Contact).ID == id) c.Contacts.length
def breakO (o : Contact) : Contact := ⟨o.ID, o.Critical, false, true, o.Until⟩
def makeO (o : Contact) : Contact := ⟨o.ID, o.Critical, true, o.Latched, o.Until⟩
def clearO (o : Contact) : Contact := ⟨o.ID, o.Critical, o.Closed, false, o.Until⟩
def untilO (t : Int) (o : Contact) : Contact := ⟨o.ID, o.Critical, o.Closed, o.Latched, t⟩
def expO (t : Int) (o : Contact) : Contact := bif decide (o.Until ≤ t) then untilO 0 o else o
def at1 (c : Chain) (i : Nat) (f : Contact → Contact) : Chain := ⟨c.Contacts.set i (f (c.Contacts.getD i z_Contact)), c.Key⟩
def expS (c : Chain) (t : Int) : Chain := ⟨c.Contacts.map (expO t), c.Key⟩
def faultO (t : Int) (o : Contact) : Bool := (o.Latched || !o.Closed) && decide (t ≥ o.Until)
def faultsS (c : Chain) (t : Int) : List Int := (c.Contacts.filter (faultO t)).map (·.ID)
def breakS (c : Chain) (id : Int) : Chain × Int := match idx c id with
  | none => (z_Chain, 8)
  | some i => (at1 c i breakO, 0)
def makeS (c : Chain) (id : Int) : Chain × Int := match idx c id with
  | none => (z_Chain, 8)
  | some i => (at1 c i makeO, 0)
def clearS (c : Chain) (id by' : Int) : Chain × Int := match idx c id with
  | none => (z_Chain, 8)
  | some i => bif !(decide (1 ≤ by') && decide (by' ≤ 9999)) then (z_Chain, 17) else bif !(c.Contacts.getD i z_Contact).Closed then (z_Chain, 10) else (at1 c i clearO, 0)
def takeS (c : Chain) (by' : Int) : Chain × Int :=
  bif !(decide (1 ≤ by') && decide (by' ≤ 9999)) then (z_Chain, 17) else bif c.Key != 0 && c.Key != by' then (z_Chain, 15) else bif c.Key == 0 then (⟨c.Contacts, by'⟩, 0) else (⟨c.Contacts.map (untilO 0), 0⟩, 0)
def bypassS (c : Chain) (id by' u : Int) : Chain × Int := match idx c id with
  | none => (z_Chain, 8)
  | some i => bif by' == 0 || by' != c.Key then (z_Chain, 17) else bif (c.Contacts.getD i z_Contact).Critical then (z_Chain, 13)
    else bif (fst (fun k => k != i && (c.Contacts.getD k z_Contact).Until != 0) c.Contacts.length).isSome then (z_Chain, 15)
    else bif decide (u < 1) || decide (u > 20000000) then (z_Chain, 2) else (at1 c i (untilO u), 0)
theorem idx_some {c : Chain} {id : Int} {i : Nat} (h : idx c id = some i) : i < c.Contacts.length ∧ (c.Contacts.getD i z_Contact).ID = id := by
  unfold idx at h
  rw [fst_some] at h
  exact ⟨h.1, by simpa using h.2.1⟩
theorem faults_step {c : Chain} (t : Int) (k : Nat) (hk : k < c.Contacts.length) : ((c.Contacts.take (k + 1)).filter (faultO t)).map (·.ID) = bif faultO t (c.Contacts.getD k z_Contact) then ((c.Contacts.take k).filter (faultO t)).map (·.ID) ++ [(c.Contacts.getD k z_Contact).ID] else ((c.Contacts.take k).filter (faultO t)).map (·.ID) := by
  rw [take_getD _ k z_Contact hk, List.filter_append, List.map_append]
  cases h : faultO t (c.Contacts.getD k z_Contact) <;> simp only [List.filter_cons, h] <;> simp
section
variable {N : Nat} (hN : 1000 < N) {c : Chain} (hl : c.Contacts.length ≤ 1000)
include hN hl
theorem find_idx (id : Int) : chain_find N c id = some (oi (idx c id)) := find_eq hN c id hl
theorem break_eq (id : Int) : chain_Break N c id = some (breakS c id) := by
  unfold chain_Break breakS
  rw [find_idx hN hl]
  cases h : idx c id with
  | none => rfl
  | some i =>
    have hi := (idx_some h).1
    simp only [oi, Option.bind_some, Int.toNat_natCast, clone_eq c hl, List.length_set, getD_set _ _ _ _ _ hi, if_true, List.set_set]
    have h1 : decide ((i : Int) < (c.Contacts.length : Int)) = true := by simp [hi]
    have h2 : decide ((i : Int) < 0) = false := by simp
    have h3 : decide ((0 : Int) ≤ (i : Int)) = true := by simp
    rw [h1, h2, h3]
    rfl
theorem make_eq (id : Int) : chain_Make N c id = some (makeS c id) := by
  unfold chain_Make makeS
  rw [find_idx hN hl]
  cases h : idx c id with
  | none => rfl
  | some i =>
    have hi := (idx_some h).1
    simp only [oi, Option.bind_some, Int.toNat_natCast, clone_eq c hl]
    have h1 : decide ((i : Int) < (c.Contacts.length : Int)) = true := by simp [hi]
    have h2 : decide ((i : Int) < 0) = false := by simp
    have h3 : decide ((0 : Int) ≤ (i : Int)) = true := by simp
    rw [h1, h2, h3]
    rfl
theorem clear_eq (id by' : Int) : chain_Clear N c id by' = some (clearS c id by') := by
  unfold chain_Clear clearS
  rw [find_idx hN hl]
  cases h : idx c id with
  | none => rfl
  | some i =>
    have hi := (idx_some h).1
    simp only [oi, Option.bind_some, Int.toNat_natCast, clone_eq c hl, isPerson_eq]
    have h1 : decide ((i : Int) < (c.Contacts.length : Int)) = true := by simp [hi]
    have h2 : decide ((i : Int) < 0) = false := by simp
    have h3 : decide ((0 : Int) ≤ (i : Int)) = true := by simp
    rw [h1, h2, h3]
    cases (decide (1 ≤ by') && decide (by' ≤ 9999)) <;> cases h4 : (c.Contacts.getD i z_Contact).Closed <;> first | rfl | (simp only [at1, clearO, h4]; rfl) | skip
theorem expire_eq (t : Int) : chain_Expire N c t = some (expS c t) := by
  unfold chain_Expire expS
  rw [clone_eq c hl, Option.bind_some]
  have hT : (c.Contacts.map (expO t)).length = c.Contacts.length := by simp
  refine (bind_while (r0 := c.Contacts.map (expO t)) (whileF_eq (fun k s => s = ((k : Int), mixd (c.Contacts.map (expO t)) c.Contacts k)) c.Contacts.length (by simp [mixd_zero]) (fun k s hk hI => ?_) (fun s hI => ?_) (by omega))).trans ?_
  · subst hI
    left
    have h1 : decide ((k : Int) < (c.Contacts.length : Int)) = true := by simp [hk]
    have h3 : decide ((0 : Int) ≤ (k : Int)) = true := by simp
    refine ⟨_, ?_, rfl⟩
    have hg := getD_map (expO t) c.Contacts k z_Contact z_Contact hk
    simp only [Int.toNat_natCast, mixd_len hT, mixd_getD hT hk, h1, h3, Bool.and_self, cond_true, wrapN (show k < 9223372036854775807 by omega)]
    by_cases hu : (c.Contacts.getD k z_Contact).Until ≤ t
    · rw [mixd_set hT hk _ z_Contact (by rw [hg]; simp only [expO, hu, decide_true, cond_true]; rfl)]
      simp only [hu, decide_true, cond_true, Option.bind_some]
      rfl
    · rw [← mixd_same hT hk z_Contact (by rw [hg]; simp only [expO, hu, decide_false, cond_false])]
      simp only [hu, decide_false, cond_false, Option.bind_some]
      rfl
  · subst hI
    simp [mixd_all hT]
  · rfl
omit hN in
theorem faults_body (t : Int) (k : Nat) (hk : k < c.Contacts.length) : ((((c.Contacts.take k).filter (faultO t)).map (·.ID)).length + 1) * 8 ≤ 140737488355328 := by
  have h1 : ((c.Contacts.take k).filter (faultO t)).length ≤ (c.Contacts.take k).length := List.length_filter_le _ _
  simp only [List.length_map, List.length_take] at *
  omega
theorem faults_eq (t : Int) : chain_Faults N c t = some (faultsS c t) := by
  unfold chain_Faults faultsS
  refine (bind_while (r0 := (c.Contacts.filter (faultO t)).map (·.ID)) (whileF_eq (fun k s => s = (((c.Contacts.take k).filter (faultO t)).map (·.ID), (k : Int))) c.Contacts.length (by simp [mixd_zero]) (fun k s hk hI => ?_) (fun s hI => ?_) (by omega))).trans ?_
  · subst hI
    left
    have h1 : decide ((k : Int) < (c.Contacts.length : Int)) = true := by simp [hk]
    have h3 : decide ((0 : Int) ≤ (k : Int)) = true := by simp
    have h4 : ∀ y : Int, decide (((((c.Contacts.take k).filter (faultO t)).map (·.ID)).length + [y].length) * 8 ≤ 140737488355328) = true := fun y => by
      simp only [decide_eq_true_eq]
      exact faults_body hl t k hk
    refine ⟨(((c.Contacts.take (k + 1)).filter (faultO t)).map (·.ID), (k + 1 : Nat)), ?_, rfl⟩
    rw [faults_step t k hk]
    simp only [h1, h3, h4, cond_true, Int.toNat_natCast, Option.bind_some, wrapN (show k < 9223372036854775807 by omega), Bool.and_self]
    unfold faultO
    cases h5 : (c.Contacts.getD k z_Contact).Latched <;> cases h6 : (c.Contacts.getD k z_Contact).Closed <;> cases h7 : decide (t ≥ (c.Contacts.getD k z_Contact).Until) <;> rfl
  · subst hI
    simp
  · rfl
end
structure Val (c : Chain) : Prop where
  len : c.Contacts.length ≤ 32
  key : 0 ≤ c.Key ∧ c.Key ≤ 9999
  ids : ∀ i, i < c.Contacts.length → 1 ≤ (c.Contacts.getD i z_Contact).ID ∧ (c.Contacts.getD i z_Contact).ID ≤ 9999
  unt : ∀ i, i < c.Contacts.length → 0 ≤ (c.Contacts.getD i z_Contact).Until ∧ (c.Contacts.getD i z_Contact).Until ≤ 20000000
  dis : ∀ i j, i < c.Contacts.length → j < i → (c.Contacts.getD j z_Contact).ID ≠ (c.Contacts.getD i z_Contact).ID
  st : ∀ i, i < c.Contacts.length → (c.Contacts.getD i z_Contact).Closed = true ∨ (c.Contacts.getD i z_Contact).Latched = true
  crit : ∀ i, i < c.Contacts.length → (c.Contacts.getD i z_Contact).Critical = true → (c.Contacts.getD i z_Contact).Until = 0
  byp : ∀ i, i < c.Contacts.length → (c.Contacts.getD i z_Contact).Until ≠ 0 → c.Key ≠ 0 ∧ ∀ j, j < i → (c.Contacts.getD j z_Contact).Until = 0
theorem dup_false {l : List Contact} {i : Nat} : dup l i = false ↔ ∀ j, j < i → (l.getD j z_Contact).ID ≠ (l.getD i z_Contact).ID := by
  unfold dup
  rw [Option.isSome_eq_false_iff, Option.isNone_iff_eq_none, fst_none]
  constructor <;> intro h j hj <;> simpa using h j hj
theorem byp_false {l : List Contact} {i : Nat} : byp l i = false ↔ ∀ j, j < i → (l.getD j z_Contact).Until = 0 := by
  unfold byp
  rw [Option.isSome_eq_false_iff, Option.isNone_iff_eq_none, fst_none]
  constructor <;> intro h j hj <;> simpa using h j hj
theorem errO_zero {o : Contact} {k : Int} {d b : Bool} : errO o k d b = 0 ↔ (1 ≤ o.ID ∧ o.ID ≤ 9999) ∧ (0 ≤ o.Until ∧ o.Until ≤ 20000000) ∧ d = false ∧ (o.Closed = true ∨ o.Latched = true) ∧ (o.Critical = true → o.Until = 0) ∧ (o.Until ≠ 0 → k ≠ 0 ∧ b = false) := by
  unfold errO
  by_cases h1 : o.ID < 1
  · simp [h1]; omega
  by_cases h2 : o.ID > 9999
  · simp [h1, h2]; omega
  by_cases h3 : o.Until < 0
  · simp [h1, h2, h3]; omega
  by_cases h4 : o.Until > 20000000
  · simp [h1, h2, h3, h4]; omega
  have e1 : (1 ≤ o.ID ∧ o.ID ≤ 9999) := by omega
  have e2 : (0 ≤ o.Until ∧ o.Until ≤ 20000000) := by omega
  simp only [h1, h2, h3, h4, decide_false, Bool.or_self, cond_false, e1, e2, and_self, true_and]
  cases d
  · cases o.Closed <;> cases o.Latched <;> cases o.Critical <;> by_cases h5 : o.Until = 0 <;> by_cases h6 : k = 0 <;> cases b <;> simp [Bool.cond_eq_ite, h5, h6]
  · simp
theorem right_zero {c : Chain} : rightS c = 0 ↔ Val c := by
  unfold rightS
  by_cases h1 : c.Contacts.length > 32
  · simp only [h1, decide_true, cond_true]
    exact ⟨fun h => absurd h (by decide), fun h => absurd h.len (by omega)⟩
  by_cases h2 : c.Key < 0
  · simp only [h1, h2, decide_true, decide_false, cond_true, cond_false, Bool.true_or]
    exact ⟨fun h => absurd h (by decide), fun h => absurd h.key.1 (by omega)⟩
  by_cases h3 : c.Key > 9999
  · simp only [h1, h2, h3, decide_true, decide_false, cond_true, cond_false, Bool.or_true]
    exact ⟨fun h => absurd h (by decide), fun h => absurd h.key.2 (by omega)⟩
  simp only [h1, h2, h3, decide_false, cond_false, Bool.or_self]
  have hv : Val c ↔ ∀ i, i < c.Contacts.length → errAt c i = 0 := by
    constructor
    · intro v i hi
      unfold errAt
      rw [errO_zero]
      exact ⟨v.ids i hi, v.unt i hi, dup_false.2 fun j hj => v.dis i j hi hj, v.st i hi, v.crit i hi, fun h => ⟨(v.byp i hi h).1, byp_false.2 (v.byp i hi h).2⟩⟩
    · intro h
      have h' : ∀ i, i < c.Contacts.length → _ := fun i hi => errO_zero.1 (h i hi)
      exact ⟨by omega, by omega, fun i hi => (h' i hi).1, fun i hi => (h' i hi).2.1, fun i j hi hj => dup_false.1 (h' i hi).2.2.1 j hj, fun i hi => (h' i hi).2.2.2.1, fun i hi => (h' i hi).2.2.2.2.1, fun i hi hu => ⟨((h' i hi).2.2.2.2.2 hu).1, byp_false.1 ((h' i hi).2.2.2.2.2 hu).2⟩⟩
  rw [hv]
  cases hf : fst (fun i => errAt c i != 0) c.Contacts.length with
  | none =>
    rw [fst_none] at hf
    exact ⟨fun _ i hi => by simpa using hf i hi, fun _ => rfl⟩
  | some i =>
    rw [fst_some] at hf
    have h4 : errAt c i ≠ 0 := by simpa using hf.2.1
    exact ⟨fun h => absurd h h4, fun h => absurd (h i hf.1) h4⟩
section
variable {N : Nat} (hN : 1000 < N) {c : Chain}
include hN
theorem take_eq (hl : c.Contacts.length ≤ 1000) (by' : Int) : chain_Take N c by' = some (takeS c by') := by
  unfold chain_Take takeS
  rw [isPerson_eq, clone_eq c hl]
  cases (decide (1 ≤ by') && decide (by' ≤ 9999)) <;> try rfl
  cases h2 : c.Key == 0 <;> cases h3 : c.Key == by' <;> simp only [bne, h2, h3, Option.bind_some, cond_true, cond_false, Bool.not_true, Bool.not_false, Bool.and_self, Bool.and_false, Bool.false_and, Bool.and_true]
  have hT : (c.Contacts.map (untilO 0)).length = c.Contacts.length := by simp
  refine (bind_while (r0 := c.Contacts.map (untilO 0)) (whileF_eq (fun k s => s = ((k : Int), mixd (c.Contacts.map (untilO 0)) c.Contacts k)) c.Contacts.length (by simp [mixd_zero]) (fun k s hk hI => ?_) (fun s hI => ?_) (by omega))).trans ?_
  · subst hI
    left
    have h1 : decide ((k : Int) < (c.Contacts.length : Int)) = true := by simp [hk]
    have h3 : decide ((0 : Int) ≤ (k : Int)) = true := by simp
    refine ⟨_, ?_, rfl⟩
    have hg := getD_map (untilO 0) c.Contacts k z_Contact z_Contact hk
    simp only [Int.toNat_natCast, mixd_len hT, mixd_getD hT hk, h1, h3, Bool.and_self, cond_true, wrapN (show k < 9223372036854775807 by omega)]
    rw [mixd_set hT hk _ z_Contact (by rw [hg]; rfl)]
    rfl
  · subst hI
    simp [mixd_all hT]
  · rfl
theorem bypass_eq (hl : c.Contacts.length ≤ 1000) (id by' u : Int) : chain_Bypass N c id by' u = some (bypassS c id by' u) := by
  unfold chain_Bypass bypassS
  rw [find_idx hN hl]
  cases h : idx c id with
  | none => rfl
  | some i =>
    have hi := (idx_some h).1
    simp only [oi, Option.bind_some, Int.toNat_natCast, clone_eq c hl]
    have h1 : decide ((i : Int) < (c.Contacts.length : Int)) = true := by simp [hi]
    have h2 : decide ((i : Int) < 0) = false := by simp
    have h3 : decide ((0 : Int) ≤ (i : Int)) = true := by simp
    simp only [h1, h2, h3, Bool.and_self, cond_true, cond_false]
    cases h4 : by' == 0 <;> cases h5 : by' == c.Key <;> simp only [bne, h5, Option.bind_some, cond_true, cond_false, Bool.not_true, Bool.not_false, Bool.or_self, Bool.or_true, Bool.true_or, Bool.or_false]
    cases h6 : (c.Contacts.getD i z_Contact).Critical <;> simp only [cond_true, cond_false]
    have hw : whileF N (fun (p6 : Int × Chain) =>
        bif decide (p6.fst < (↑c.Contacts.length : Int)) then
          (bif !(p6.fst == (i : Int)) then
                bif decide ((0 : Int) ≤ p6.fst) && decide (p6.fst < (↑c.Contacts.length : Int)) then
                  some (!((c.Contacts.getD (Int.toNat p6.fst) z_Contact).Until == (0 : Int)))
                else none
              else some false).bind
            fun (r7 : Bool) =>
            bif r7 then some (Sum.inr (Sum.inr ((15 : Int), z_Chain)))
            else some (Sum.inl (IntKind.i64.wrap (p6.fst + (1 : Int)), p6.snd))
        else some (Sum.inr (Sum.inl p6.snd))) ((0 : Int), z_Chain) = some (sres (fun _ => ((15 : Int), z_Chain)) z_Chain (fst (fun k => !(k == i) && !((c.Contacts.getD k z_Contact).Until == 0)) c.Contacts.length)) := by
      refine whileF_eq (fun k s => s = ((k : Int), z_Chain) ∧ ∀ j, j < k → (!(j == i) && !((c.Contacts.getD j z_Contact).Until == 0)) = false) c.Contacts.length ⟨rfl, fun j hj => by omega⟩ (fun k s hk hI => ?_) (fun s hI => ?_) (by omega)
      · obtain ⟨rfl, hI⟩ := hI
        have g1 : decide ((k : Int) < (c.Contacts.length : Int)) = true := by simp [hk]
        have g3 : decide ((0 : Int) ≤ (k : Int)) = true := by simp
        have g4 : ((k : Int) == (i : Int)) = (k == i) := by rw [Bool.eq_iff_iff]; simp [Int.ofNat_inj]
        simp only [g1, g3, g4, Bool.and_self, cond_true, Int.toNat_natCast, wrapN (show k < 9223372036854775807 by omega)]
        cases hp : (!(k == i) && !((c.Contacts.getD k z_Contact).Until == 0)) with
        | false =>
          left
          refine ⟨((k + 1 : Nat), z_Chain), ?_, rfl, fun j hj => by rcases Nat.lt_succ_iff_lt_or_eq.1 hj with h | rfl; exact hI j h; exact hp⟩
          cases e1 : k == i <;> cases e2 : (c.Contacts.getD k z_Contact).Until == 0 <;> simp only [e1, e2] at hp <;> first | rfl | cases hp
        | true =>
          right
          rw [fst_some.2 ⟨hk, hp, hI⟩]
          cases e1 : k == i <;> cases e2 : (c.Contacts.getD k z_Contact).Until == 0 <;> simp only [e1, e2] at hp <;> first | rfl | cases hp
      · obtain ⟨rfl, hI⟩ := hI
        rw [fst_none.2 hI]
        simp [sres]
    rw [hw]
    generalize fst (fun k => !(k == i) && !((c.Contacts.getD k z_Contact).Until == 0)) c.Contacts.length = q
    cases q with
    | none =>
      simp only [sres, Sum.elim_inl, Option.bind_some, Option.isSome_none, cond_false]
      cases decide (u < 1) <;> cases decide (u > 20000000) <;> first | rfl | (simp only [at1, untilO, h6]; rfl)
    | some k => rfl
end
theorem faults_expire {c : Chain} (v : Val c) (t : Int) : faultsS (expS c t) t = faultsS c t := by
  unfold faultsS expS
  simp only [List.filter_map, List.map_map]
  have h1 : c.Contacts.filter (faultO t ∘ expO t) = c.Contacts.filter (faultO t) := by
    refine List.filter_congr fun o ho => ?_
    obtain ⟨i, hi, rfl⟩ := mem_getD z_Contact ho
    have hu := (v.unt i hi).1
    generalize c.Contacts.getD i z_Contact = o at hu
    simp only [Function.comp, faultO, expO]
    by_cases h : o.Until ≤ t
    · have : t ≥ 0 := by omega
      simp [h, untilO, this]
    · simp [h]
  rw [h1]
  refine List.map_congr_left fun o _ => ?_
  simp only [Function.comp, expO]
  cases decide (o.Until ≤ t) <;> rfl
def opS (c : Chain) (x : Op) : Chain × Int :=
  bif x.Kind == 0 then breakS c x.ID else bif x.Kind == 1 then makeS c x.ID else bif x.Kind == 2 then clearS c x.ID x.By
  else bif x.Kind == 3 then takeS c x.By else bif x.Kind == 4 then bypassS c x.ID x.By x.Time else (expS c x.Time, 0)
def doS (c : Chain) (x : Op) : Chain × Bool := bif (opS c x).2 != 0 then (c, false) else ((opS c x).1, true)
inductive Did (c : Chain) (x : Op) : Chain → Prop
  | break (i : Nat) (hk : x.Kind = 0) (hi : idx c x.ID = some i) : Did c x (at1 c i breakO)
  | make (i : Nat) (hk : x.Kind = 1) (hi : idx c x.ID = some i) : Did c x (at1 c i makeO)
  | clear (i : Nat) (hk : x.Kind = 2) (hi : idx c x.ID = some i) (hc : (c.Contacts.getD i z_Contact).Closed = true) : Did c x (at1 c i clearO)
  | take (hk : x.Kind = 3) (hb : 1 ≤ x.By ∧ x.By ≤ 9999) (h0 : c.Key = 0) : Did c x ⟨c.Contacts, x.By⟩
  | give (hk : x.Kind = 3) : Did c x ⟨c.Contacts.map (untilO 0), 0⟩
  | bypass (i : Nat) (hk : x.Kind = 4) (hi : idx c x.ID = some i) (hb : x.By ≠ 0) (hb2 : x.By = c.Key) (hc : (c.Contacts.getD i z_Contact).Critical = false)
      (ho : ∀ k, k < c.Contacts.length → k ≠ i → (c.Contacts.getD k z_Contact).Until = 0) (ht : 1 ≤ x.Time ∧ x.Time ≤ 20000000) : Did c x (at1 c i (untilO x.Time))
  | expire (hk : x.Kind ≠ 0 ∧ x.Kind ≠ 1 ∧ x.Kind ≠ 2 ∧ x.Kind ≠ 3 ∧ x.Kind ≠ 4) : Did c x (expS c x.Time)
theorem did {c : Chain} {x : Op} (h : (opS c x).2 = 0) : Did c x (opS c x).1 := by
  unfold opS at *
  cases h0 : x.Kind == 0 <;> simp only [h0, cond_true, cond_false] at h ⊢
  · cases h1 : x.Kind == 1 <;> simp only [h1, cond_true, cond_false] at h ⊢
    · cases h2 : x.Kind == 2 <;> simp only [h2, cond_true, cond_false] at h ⊢
      · cases h3 : x.Kind == 3 <;> simp only [h3, cond_true, cond_false] at h ⊢
        · cases h4 : x.Kind == 4 <;> simp only [h4, cond_true, cond_false] at h ⊢
          · exact .expire (by simp at h0 h1 h2 h3 h4; exact ⟨h0, h1, h2, h3, h4⟩)
          · unfold bypassS at *
            cases hi : idx c x.ID with
            | none => rw [hi] at h; cases h
            | some i =>
              rw [hi] at h
              simp only at h ⊢
              cases e1 : (x.By == 0 || x.By != c.Key) <;> simp only [e1, cond_true, cond_false] at h ⊢
              · cases e2 : (c.Contacts.getD i z_Contact).Critical <;> simp only [e2, cond_true, cond_false] at h ⊢
                · cases e3 : (fst (fun k => k != i && (c.Contacts.getD k z_Contact).Until != 0) c.Contacts.length) with
                  | none =>
                    simp only [e3, Option.isSome_none, cond_false] at h ⊢
                    cases e4 : (decide (x.Time < 1) || decide (x.Time > 20000000)) <;> simp only [e4, cond_true, cond_false] at h ⊢
                    · simp at h4 e1 e4
                      rw [fst_none] at e3
                      refine .bypass i h4 hi e1.1 e1.2 e2 (fun k hk hne => ?_) (by omega)
                      have := e3 k hk
                      simpa [hne] using this
                    · cases h
                  | some k => simp only [e3, Option.isSome_some, cond_true] at h; cases h
                · cases h
              · cases h
        · unfold takeS at *
          cases e1 : (decide (1 ≤ x.By) && decide (x.By ≤ 9999)) <;> simp only [e1, Bool.not_true, Bool.not_false, cond_true, cond_false] at h ⊢
          · cases h
          · cases e2 : (c.Key != 0 && c.Key != x.By) <;> simp only [e2, cond_true, cond_false] at h ⊢
            · cases e3 : c.Key == 0 <;> simp only [e3, cond_true, cond_false] at h ⊢
              · exact .give (by simpa using h3)
              · exact .take (by simpa using h3) (by simpa using e1) (by simpa using e3)
            · cases h
      · unfold clearS at *
        cases hi : idx c x.ID with
        | none => rw [hi] at h; cases h
        | some i =>
          rw [hi] at h
          simp only at h ⊢
          cases e1 : (decide (1 ≤ x.By) && decide (x.By ≤ 9999)) <;> simp only [e1, Bool.not_true, Bool.not_false, cond_true, cond_false] at h ⊢
          · cases h
          · cases e2 : (c.Contacts.getD i z_Contact).Closed <;> simp only [e2, Bool.not_true, Bool.not_false, cond_true, cond_false] at h ⊢
            · cases h
            · exact .clear i (by simpa using h2) hi e2
    · unfold makeS at *
      cases hi : idx c x.ID with
      | none => rw [hi] at h; cases h
      | some i => exact .make i (by simpa using h1) hi
  · unfold breakS at *
    cases hi : idx c x.ID with
    | none => rw [hi] at h; cases h
    | some i => exact .break i (by simpa using h0) hi
theorem doS_cases (c : Chain) (x : Op) : doS c x = (c, false) ∨ ∃ c', doS c x = (c', true) ∧ Did c x c' := by
  unfold doS
  cases h : (opS c x).2 != 0
  · exact .inr ⟨_, rfl, did (by simpa using h)⟩
  · exact .inl rfl
def Sk (c c' : Chain) : Prop := c'.Contacts.length = c.Contacts.length ∧ ∀ i, i < c.Contacts.length → (c'.Contacts.getD i z_Contact).ID = (c.Contacts.getD i z_Contact).ID ∧ (c'.Contacts.getD i z_Contact).Critical = (c.Contacts.getD i z_Contact).Critical
theorem Sk.refl (c : Chain) : Sk c c := ⟨rfl, fun _ _ => ⟨rfl, rfl⟩⟩
theorem Sk.trans {a b c : Chain} (h : Sk a b) (h' : Sk b c) : Sk a c := ⟨h'.1.trans h.1, fun i hi => ⟨(h'.2 i (by rw [h.1]; exact hi)).1.trans (h.2 i hi).1, (h'.2 i (by rw [h.1]; exact hi)).2.trans (h.2 i hi).2⟩⟩
theorem at1_getD {c : Chain} {i : Nat} (hi : i < c.Contacts.length) (f : Contact → Contact) (j : Nat) : (at1 c i f).Contacts.getD j z_Contact = if i = j then f (c.Contacts.getD j z_Contact) else c.Contacts.getD j z_Contact := by
  simp only [at1]
  rw [getD_set _ _ _ _ _ hi]
  by_cases h : i = j
  · subst h; rfl
  · rw [if_neg h, if_neg h]
theorem Did.sk {c c' : Chain} {x : Op} (h : Did c x c') : Sk c c' := by
  have one : ∀ (i : Nat) (f : Contact → Contact), idx c x.ID = some i → (∀ o, (f o).ID = o.ID ∧ (f o).Critical = o.Critical) → Sk c (at1 c i f) := fun i f hi hf =>
    ⟨by simp [at1], fun j hj => by
      rw [at1_getD (idx_some hi).1]
      by_cases hij : i = j
      · rw [if_pos hij]; exact hf _
      · rw [if_neg hij]; exact ⟨rfl, rfl⟩⟩
  have all : ∀ (f : Contact → Contact) (k : Int), (∀ o, (f o).ID = o.ID ∧ (f o).Critical = o.Critical) → Sk c ⟨c.Contacts.map f, k⟩ := fun f k hf =>
    ⟨by simp, fun j hj => by
      show ((c.Contacts.map f).getD j z_Contact).ID = _ ∧ ((c.Contacts.map f).getD j z_Contact).Critical = _
      rw [getD_map f c.Contacts j z_Contact z_Contact hj]; exact hf _⟩
  cases h with
  | «break» i hk hi => exact one i _ hi fun o => ⟨rfl, rfl⟩
  | make i hk hi => exact one i _ hi fun o => ⟨rfl, rfl⟩
  | clear i hk hi => exact one i _ hi fun o => ⟨rfl, rfl⟩
  | bypass i hk hi => exact one i _ hi fun o => ⟨rfl, rfl⟩
  | take => exact ⟨rfl, fun _ _ => ⟨rfl, rfl⟩⟩
  | give => exact all _ _ fun o => ⟨rfl, rfl⟩
  | expire => exact all _ _ fun o => by unfold expO; cases decide (o.Until ≤ x.Time) <;> exact ⟨rfl, rfl⟩
theorem Val.low {c c' : Chain} (v : Val c) (hs : Sk c c') (hk : c'.Key = c.Key) (hst : ∀ i, i < c.Contacts.length → (c'.Contacts.getD i z_Contact).Closed = true ∨ (c'.Contacts.getD i z_Contact).Latched = true)
    (hu : ∀ i, i < c.Contacts.length → (c'.Contacts.getD i z_Contact).Until = (c.Contacts.getD i z_Contact).Until ∨ (c'.Contacts.getD i z_Contact).Until = 0) : Val c' where
  len := by rw [hs.1]; exact v.len
  key := by rw [hk]; exact v.key
  ids := fun i hi => by rw [hs.1] at hi; rw [(hs.2 i hi).1]; exact v.ids i hi
  unt := fun i hi => by
    rw [hs.1] at hi
    rcases hu i hi with h | h <;> rw [h]
    · exact v.unt i hi
    · omega
  dis := fun i j hi hj => by rw [hs.1] at hi; rw [(hs.2 i hi).1, (hs.2 j (by omega)).1]; exact v.dis i j hi hj
  st := fun i hi => by rw [hs.1] at hi; exact hst i hi
  crit := fun i hi hc => by
    rw [hs.1] at hi
    rw [(hs.2 i hi).2] at hc
    rcases hu i hi with h | h <;> rw [h]
    exact v.crit i hi hc
  byp := fun i hi hn => by
    rw [hs.1] at hi
    rcases hu i hi with h | h
    · rw [h] at hn
      obtain ⟨h1, h2⟩ := v.byp i hi hn
      refine ⟨by rw [hk]; exact h1, fun j hj => ?_⟩
      rcases hu j (by omega) with h3 | h3 <;> rw [h3]
      exact h2 j hj
    · exact absurd h hn
theorem Did.val {c c' : Chain} {x : Op} (v : Val c) (h : Did c x c') : Val c' := by
  have hs := h.sk
  have one : ∀ (i : Nat) (f : Contact → Contact), idx c x.ID = some i → Sk c (at1 c i f) → (∀ o, (f o).Until = o.Until) → ((f (c.Contacts.getD i z_Contact)).Closed = true ∨ (f (c.Contacts.getD i z_Contact)).Latched = true) → Val (at1 c i f) := fun i f hi hs hf hc =>
    v.low hs rfl (fun j hj => by
      rw [at1_getD (idx_some hi).1]
      by_cases hij : i = j
      · subst hij; rw [if_pos rfl]; exact hc
      · rw [if_neg hij]; exact v.st j hj) (fun j hj => by
      rw [at1_getD (idx_some hi).1]
      by_cases hij : i = j
      · rw [if_pos hij, hf]; exact .inl rfl
      · rw [if_neg hij]; exact .inl rfl)
  cases h with
  | «break» i hk hi => exact one i _ hi hs (fun o => rfl) (.inr rfl)
  | make i hk hi => exact one i _ hi hs (fun o => rfl) (.inl rfl)
  | clear i hk hi hc => exact one i _ hi hs (fun o => rfl) (.inl hc)
  | take hk hb h0 =>
    exact { len := v.len, key := ⟨by show 0 ≤ x.By; omega, hb.2⟩, ids := v.ids, unt := v.unt, dis := v.dis, st := v.st, crit := v.crit, byp := fun i hi hn => absurd h0 (v.byp i hi hn).1 }
  | give =>
    have hg : ∀ i, i < c.Contacts.length → (c.Contacts.map (untilO 0)).getD i z_Contact = untilO 0 (c.Contacts.getD i z_Contact) := fun i hi => getD_map _ _ _ _ _ hi
    have hl : (c.Contacts.map (untilO 0)).length = c.Contacts.length := by simp
    have w : Val ⟨c.Contacts.map (untilO 0), c.Key⟩ := v.low ⟨hl, fun i hi => by simp only [hg i hi]; exact ⟨rfl, rfl⟩⟩ rfl (fun i hi => by simp only [hg i hi]; exact v.st i hi) (fun i hi => by simp only [hg i hi]; exact .inr rfl)
    exact { len := w.len, key := by simp, ids := w.ids, unt := w.unt, dis := w.dis, st := w.st, crit := w.crit, byp := fun i hi hn => absurd (by rw [show (Chain.mk (c.Contacts.map (untilO 0)) 0).Contacts.getD i z_Contact = _ from hg i (by rw [← hl]; exact hi)]; rfl) hn }
  | expire =>
    have hg : ∀ i, i < c.Contacts.length → (expS c x.Time).Contacts.getD i z_Contact = expO x.Time (c.Contacts.getD i z_Contact) := fun i hi => getD_map _ _ _ _ _ hi
    refine v.low hs rfl (fun i hi => ?_) (fun i hi => ?_)
    · rw [hg i hi]
      have := v.st i hi
      unfold expO
      cases decide ((c.Contacts.getD i z_Contact).Until ≤ x.Time) <;> exact this
    · rw [hg i hi]
      unfold expO
      cases decide ((c.Contacts.getD i z_Contact).Until ≤ x.Time)
      · exact .inl rfl
      · exact .inr rfl
  | bypass i hk hi hb hb2 hc ho ht =>
    have hil := (idx_some hi).1
    have hg := at1_getD hil (untilO x.Time)
    have hl : (at1 c i (untilO x.Time)).Contacts.length = c.Contacts.length := hs.1
    have w : ∀ k, k < c.Contacts.length → k ≠ i → ((at1 c i (untilO x.Time)).Contacts.getD k z_Contact).Until = 0 := fun k hk hne => by
      rw [hg, if_neg (Ne.symm hne)]; exact ho k hk hne
    have wi : ((at1 c i (untilO x.Time)).Contacts.getD i z_Contact).Until = x.Time := by rw [hg, if_pos rfl]; rfl
    exact {
      len := by rw [hl]; exact v.len
      key := v.key
      ids := fun j hj => by rw [hl] at hj; rw [(hs.2 j hj).1]; exact v.ids j hj
      unt := fun j hj => by
        rw [hl] at hj
        by_cases hji : j = i
        · subst hji; rw [wi]; omega
        · rw [w j hj hji]; omega
      dis := fun j k hj hk => by rw [hl] at hj; rw [(hs.2 j hj).1, (hs.2 k (by omega)).1]; exact v.dis j k hj hk
      st := fun j hj => by
        rw [hl] at hj
        rw [hg]
        have := v.st j hj
        by_cases hji : i = j
        · rw [if_pos hji]; exact this
        · rw [if_neg hji]; exact this
      crit := fun j hj hcr => by
        rw [hl] at hj
        rw [(hs.2 j hj).2] at hcr
        by_cases hji : j = i
        · subst hji; rw [hc] at hcr; cases hcr
        · exact w j hj hji
      byp := fun j hj hn => by
        rw [hl] at hj
        refine ⟨fun h => hb (hb2.trans h), fun k hk => ?_⟩
        by_cases hji : j = i
        · exact w k (by omega) (by omega)
        · exact absurd (w j hj hji) hn }
theorem idx_at {c : Chain} (v : Val c) {p i : Nat} (hp : p < c.Contacts.length) {y : Int} (hi : idx c y = some i) (hy : (c.Contacts.getD p z_Contact).ID = y) : i = p := by
  obtain ⟨h1, h2⟩ := idx_some hi
  rcases Nat.lt_trichotomy i p with h | h | h
  · exact absurd (h2.trans hy.symm) (v.dis p i hp h)
  · exact h
  · exact absurd (hy.trans h2.symm) (v.dis i p h1 h)
end Go.Proofs.Ythjmbcnohgaihaa.Ch
