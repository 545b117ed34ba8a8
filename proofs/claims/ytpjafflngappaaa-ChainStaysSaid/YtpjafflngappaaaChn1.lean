/- The chain: what its functions compute, in plain words. No condition. -/
import Derived.Test.YtpjafflngappaaaFn3
import Derived.Test.YtpjafflngappaaaCmq
namespace Go.Proofs.Ytpjafflngappaaa
open Go.Cm Go.Proofs

theorem alive_ok : l16_alive 2000 = some true := by kernel_rfl

section
variable {N : Nat} (hN : 1000 < N)
include hN

theorem find_eq (c : Chain) (id : Int) (hl : c.Contacts.length ≤ 1000) : chain_find N c id = some (oi (fst (fun i => (c.Contacts.getD i z_Contact).ID == id) c.Contacts.length)) := by
  unfold chain_find
  rw [search (fun i => (c.Contacts.getD i z_Contact).ID == id) (fun i => (i : Int)) () c.Contacts.length (by omega) (fun i hi => ?_) (by simp)]
  · cases fst _ _ <;> rfl
  · simp [hi, wrapN (show i < 9223372036854775807 by omega)]
theorem index_eq (l : List Contact) (id : Int) (hl : l.length ≤ 1000) : r16_index N l id = some (oi (fst (fun i => (l.getD i z_Contact).ID == id) l.length)) := by
  unfold r16_index
  rw [search (fun i => (l.getD i z_Contact).ID == id) (fun i => (i : Int)) () l.length (by omega) (fun i hi => ?_) (by simp)]
  · cases fst _ _ <;> rfl
  · simp [hi, wrapN (show i < 9223372036854775807 by omega)]
theorem bypassed_eq (l : List Contact) (hl : l.length ≤ 1000) : r16_bypassed N l = some (oi (fst (fun i => (l.getD i z_Contact).Until != 0) l.length)) := by
  unfold r16_bypassed
  rw [search (fun i => (l.getD i z_Contact).Until != 0) (fun i => (i : Int)) () l.length (by omega) (fun i hi => ?_) (by simp)]
  · cases fst _ _ <;> rfl
  · simp [hi, wrapN (show i < 9223372036854775807 by omega)]
omit hN in
theorem clone_eq (c : Chain) (hl : c.Contacts.length ≤ 1000) : chain_clone N c = some c := by
  unfold chain_clone sl_Clone_Contact
  have : (0 + c.Contacts.length) * 24 ≤ 140737488355328 := by omega
  simp only [this, decide_true, cond_true, Option.bind_some]
omit hN in
theorem in_eq (x a b : Int) : r16_in N x a b = some (decide (a ≤ x) && decide (x ≤ b)) := by
  unfold r16_in
  by_cases h : a ≤ x <;> simp [h]
omit hN in
theorem isPerson_eq (x : Int) : chain_isPerson N x = some (decide (1 ≤ x) && decide (x ≤ 9999)) := by
  unfold chain_isPerson
  by_cases h : (1 : Int) ≤ x <;> simp [h]

/-- is there one before i -/
def dup (l : List Contact) (i : Nat) : Bool := (fst (fun j => (l.getD j z_Contact).ID == (l.getD i z_Contact).ID) i).isSome
def byp (l : List Contact) (i : Nat) : Bool := (fst (fun j => (l.getD j z_Contact).Until != 0) i).isSome
def errO (o : Contact) (k : Int) (d b : Bool) : Int :=
  bif decide (o.ID < 1) || decide (o.ID > 9999) || decide (o.Until < 0) || decide (o.Until > 20000000) then 2
  else bif d then 7
  else bif !o.Closed && !o.Latched then 10
  else bif o.Critical && o.Until != 0 then 13
  else bif o.Until != 0 && (k == 0 || b) then 15 else 0
def errAt (c : Chain) (i : Nat) : Int := errO (c.Contacts.getD i z_Contact) c.Key (dup c.Contacts i) (byp c.Contacts i)
def rightS (c : Chain) : Int :=
  bif decide (c.Contacts.length > 32) then 4
  else bif decide (c.Key < 0) || decide (c.Key > 9999) then 2
  else match fst (fun i => errAt c i != 0) c.Contacts.length with
    | some i => errAt c i
    | none => 0

omit hN in
theorem find_lt (l : List Contact) (i : Nat) (hi : i < l.length) : decide (oi (fst (fun j => (l.getD j z_Contact).ID == (l.getD i z_Contact).ID) l.length) < (i : Int)) = dup l i := by
  unfold dup
  cases h : fst (fun j => (l.getD j z_Contact).ID == (l.getD i z_Contact).ID) i with
  | none =>
    rw [fst_none] at h
    have : fst (fun j => (l.getD j z_Contact).ID == (l.getD i z_Contact).ID) l.length = some i := fst_some.2 ⟨hi, by simp, h⟩
    rw [this]
    simp [oi]
  | some j =>
    rw [fst_some] at h
    have : fst (fun j => (l.getD j z_Contact).ID == (l.getD i z_Contact).ID) l.length = some j := fst_some.2 ⟨by omega, h.2⟩
    rw [this]
    simp [oi, h.1]
omit hN in
theorem take_fst (l : List Contact) (i : Nat) (hi : i < l.length) (p : Contact → Bool) : fst (fun j => p ((l.take i).getD j z_Contact)) (l.take i).length = fst (fun j => p (l.getD j z_Contact)) i := by
  have : (l.take i).length = i := by simp; omega
  rw [this]
  exact fst_congr fun j hj => by rw [getD_take _ _ _ _ hj]
omit hN in
theorem oi_nonneg (o : Option Nat) : decide (0 ≤ oi o) = o.isSome := by cases o <;> simp [oi] <;> omega

theorem rightContact_eq (c : Chain) (hl : c.Contacts.length ≤ 1000) (i : Nat) (hi : i < c.Contacts.length) : chain_rightContact N c i = some (errAt c i) := by
  unfold chain_rightContact
  rw [Int.toNat_natCast]
  have hle : i ≤ c.Contacts.length := by omega
  have hs : whileF N (fun (p6 : Int) =>
      bif decide (p6 < (↑(List.take i c.Contacts).length : Int)) then
        bif decide ((0 : Int) ≤ p6) && decide (p6 < (↑(List.take i c.Contacts).length : Int)) then
          (chain_rightContact_1 N ((List.take i c.Contacts).getD p6.toNat z_Contact)).bind fun (r7 : Bool) =>
            bif r7 then some (Sum.inr (Sum.inr p6)) else some (Sum.inl (IntKind.i64.wrap (p6 + (1 : Int))))
        else none
      else some (Sum.inr (Sum.inl ()))) (0 : Int) = some (sres (fun j => (j : Int)) () (fst (fun j => (c.Contacts.getD j z_Contact).Until != 0) i)) := by
    have hlen : (c.Contacts.take i).length = i := by simp; omega
    rw [hlen]
    refine search _ _ _ i (by omega) (fun j hj => ?_) (by simp)
    have : (List.take i c.Contacts).getD j z_Contact = c.Contacts.getD j z_Contact := getD_take _ _ _ _ hj
    simp [hj, chain_rightContact_1, this, wrapN (show j < 9223372036854775807 by omega)]
  rw [hs, find_eq hN c _ hl]
  have hd := find_lt c.Contacts i hi
  have h1 : decide ((i : Int) < (c.Contacts.length : Int)) = true := by simp [hi]
  have h2 : decide ((i : Int) ≤ (c.Contacts.length : Int)) = true := by simp [hle]
  have h3 : decide ((0 : Int) ≤ (i : Int)) = true := by simp
  have hb : byp c.Contacts i = (fst (fun j => (c.Contacts.getD j z_Contact).Until != 0) i).isSome := rfl
  rw [h1, h2, h3, Option.bind_some, hd]
  unfold errAt errO
  rw [hb]
  generalize fst (fun j => (c.Contacts.getD j z_Contact).Until != 0) i = q
  generalize dup c.Contacts i = dd
  simp only [Bool.and_self, cond_true]
  generalize c.Contacts.getD i z_Contact = o
  cases decide (o.ID < 1) <;> cases decide (o.ID > 9999) <;> cases decide (o.Until < 0) <;> cases decide (o.Until > 20000000) <;> try rfl
  cases dd <;> try rfl
  cases o.Closed <;> cases o.Latched <;> try rfl
  all_goals
    cases o.Critical <;> cases hU : (o.Until != 0) <;> try rfl
    all_goals
      cases q <;> cases c.Key == 0 <;> simp [hU, sres]
theorem right_eq (c : Chain) : chain_Right N c = some (rightS c) := by
  unfold chain_Right rightS
  by_cases hl : c.Contacts.length > 32
  · have : (c.Contacts.length : Int) > 32 := by omega
    simp [hl, this]
  · have : ¬ (c.Contacts.length : Int) > 32 := by omega
    simp only [hl, this, decide_false, cond_false]
    cases decide (c.Key < 0) <;> cases decide (c.Key > 9999) <;> try rfl
    simp only [cond_false, Option.bind_some, Bool.or_self]
    rw [search (fun i => errAt c i != 0) (fun i => errAt c i) () c.Contacts.length (by omega) (fun i hi => ?_) (by simp)]
    · cases fst _ _ <;> rfl
    · rw [rightContact_eq hN c (by omega) i hi]
      simp [hi, wrapN (show i < 9223372036854775807 by omega)]
theorem rright_eq (c : Chain) : r16_Right N c = some (rightS c) := by
  unfold r16_Right rightS
  by_cases hl : c.Contacts.length > 32
  · have : (c.Contacts.length : Int) > 32 := by omega
    simp [hl, this]
  · have : ¬ (c.Contacts.length : Int) > 32 := by omega
    simp only [hl, this, decide_false, cond_false, in_eq, Option.bind_some]
    have e1 : (!(decide (0 ≤ c.Key) && decide (c.Key ≤ 9999))) = (decide (c.Key < 0) || decide (c.Key > 9999)) := by
      by_cases h1 : 0 ≤ c.Key <;> by_cases h2 : c.Key ≤ 9999 <;> simp [h1, h2] <;> omega
    rw [e1]
    cases (decide (c.Key < 0) || decide (c.Key > 9999))
    · simp only [cond_false]
      rw [search (fun i => errAt c i != 0) (fun i => errAt c i) () c.Contacts.length (by omega) (fun i hi => ?_) (by simp)]
      · cases fst _ _ <;> rfl
      · have h1 : decide ((i : Int) < (c.Contacts.length : Int)) = true := by simp [hi]
        have h2 : decide ((i : Int) ≤ (c.Contacts.length : Int)) = true := by simp; omega
        have h3 : decide ((0 : Int) ≤ (i : Int)) = true := by simp
        have hlen : (c.Contacts.take i).length ≤ 1000 := by simp; omega
        rw [Int.toNat_natCast]
        simp only [h1, h2, h3, Bool.and_self, cond_true, index_eq hN _ _ hlen, bypassed_eq hN _ hlen, Option.bind_some, wrapN (show i < 9223372036854775807 by omega), ge_iff_le, oi_nonneg,
          take_fst c.Contacts i hi (fun x => x.ID == (c.Contacts.getD i z_Contact).ID), take_fst c.Contacts i hi (fun x => x.Until != 0)]
        have hb : byp c.Contacts i = (fst (fun j => (c.Contacts.getD j z_Contact).Until != 0) i).isSome := rfl
        have hd : dup c.Contacts i = (fst (fun j => (c.Contacts.getD j z_Contact).ID == (c.Contacts.getD i z_Contact).ID) i).isSome := rfl
        rw [← hb, ← hd]
        unfold errAt errO
        generalize c.Contacts.getD i z_Contact = o
        have e2 : (bif !(decide (1 ≤ o.ID) && decide (o.ID ≤ 9999)) then some true else some (!(decide (0 ≤ o.Until) && decide (o.Until ≤ 20000000)))) = some (decide (o.ID < 1) || decide (o.ID > 9999) || decide (o.Until < 0) || decide (o.Until > 20000000)) := by
          by_cases h1 : 1 ≤ o.ID <;> by_cases h2 : o.ID ≤ 9999 <;> by_cases h3 : 0 ≤ o.Until <;> by_cases h4 : o.Until ≤ 20000000 <;> simp [h1, h2, h3, h4] <;> omega
        rw [e2]
        cases (decide (o.ID < 1) || decide (o.ID > 9999) || decide (o.Until < 0) || decide (o.Until > 20000000)) <;> try rfl
        cases dup c.Contacts i <;> try rfl
        cases o.Closed <;> cases o.Latched <;> try rfl
        all_goals
          cases o.Critical <;> cases hU : (o.Until != 0) <;> try rfl
          all_goals
            cases c.Key == 0 <;> cases byp c.Contacts i <;> rfl
    · rfl
end
end Go.Proofs.Ytpjafflngappaaa
