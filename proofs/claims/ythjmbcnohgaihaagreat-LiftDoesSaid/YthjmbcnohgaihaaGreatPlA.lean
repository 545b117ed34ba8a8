/- Own texts in one module: Wut Lif1 Lif2 Lif3 Lif4 Lif5 Lif6. No condition. -/
import Derived.Test.YthjmbcnohgaihaaGreatFn10
import Derived.Test.YthjmbcnohgaihaaGreatCmq
/- Rules for computations that return with a property. No condition. -/
namespace Go.Proofs.YthjmbcnohgaihaaGreat
open Go.Cm Go.Proofs
/-! a computation returns, and its result has a property -/
def W {α : Type} (Q : α → Prop) (x : Option α) : Prop := ∃ r, x = some r ∧ Q r
theorem W_some {α : Type} {Q : α → Prop} {r : α} (h : Q r) : W Q (some r) := ⟨r, rfl, h⟩
theorem W_bind {α β : Type} {Q' : α → Prop} {Q : β → Prop} {x : Option α} {f : α → Option β} (h : W Q' x) (hf : ∀ r, Q' r → W Q (f r)) : W Q (x.bind f) := by
  obtain ⟨r, rfl, hr⟩ := h
  exact hf r hr
theorem W_cond {α : Type} {Q : α → Prop} {b : Bool} {x y : Option α} (h1 : b = true → W Q x) (h2 : b = false → W Q y) : W Q (bif b then x else y) := by
  cases b
  · exact h2 rfl
  · exact h1 rfl
theorem W_elim {α β γ : Type} {Q : γ → Prop} {f : α → Option γ} {g : β → Option γ} {r : α ⊕ β} (h1 : ∀ p, W Q (f p)) (h2 : ∀ p, W Q (g p)) : W Q (Sum.elim f g r) := by
  cases r
  · exact h1 _
  · exact h2 _
theorem W_mono {α : Type} {Q Q' : α → Prop} {x : Option α} (h : W Q x) (hq : ∀ r, Q r → Q' r) : W Q' x := by
  obtain ⟨r, e, hr⟩ := h
  exact ⟨r, e, hq r hr⟩
theorem W_loop {σ ρ : Type} {body : σ → Option (σ ⊕ ρ)} {s0 : σ} {N : Nat} {Q : ρ → Prop} (I : Nat → σ → Prop) (n : Nat) (h0 : I 0 s0) (hs : ∀ i s, i < n → I i s → W (Sum.elim (I (i + 1)) Q) (body s)) (he : ∀ s, I n s → W (Sum.elim (fun _ => False) Q) (body s)) (hN : n < N) : W Q (whileF N body s0) :=
  whileF_inv I Q n h0 (fun i s hi hI => by
    obtain ⟨r, e, hr⟩ := hs i s hi hI
    cases r with
    | inl s' => exact .inl ⟨s', e, hr⟩
    | inr r => exact .inr ⟨r, e, hr⟩) (fun s hI => by
    obtain ⟨r, e, hr⟩ := he s hI
    cases r with
    | inl s' => exact hr.elim
    | inr r => exact ⟨r, e, hr⟩) hN
theorem W_of_eq {α : Type} {Q : α → Prop} {a b : Option α} (h : a = b) (hw : W Q b) : W Q a := h ▸ hw
end Go.Proofs.YthjmbcnohgaihaaGreat

/- The lift: what the functions of the chain compute, in plain words (taken out of the texts on the chain). No condition. -/
namespace Go.Proofs.YthjmbcnohgaihaaGreat.Ch
open Go.Cm Go.Proofs
set_option linter.unusedSectionVars false
structure Op where
  Kind : Int
  ID : Int
  By : Int
  Time : Int
section
variable {N : Nat}
theorem clone_eq (c : Chain) (hl : c.Contacts.length ≤ 1000) : chain_clone N c = some c := by
  unfold chain_clone sl_Clone_Contact
  have : (0 + c.Contacts.length) * 24 ≤ 140737488355328 := by omega
  simp only [this, decide_true, cond_true, Option.bind_some]
theorem isPerson_eq (x : Int) : chain_isPerson N x = some (decide (1 ≤ x) && decide (x ≤ 9999)) := by
  unfold chain_isPerson
  by_cases h : (1 : Int) ≤ x <;> simp [h]
end
def dup (l : List Contact) (i : Nat) : Bool := (fst (fun j => (l.getD j z_Contact).ID == (l.getD i z_Contact).ID) i).isSome
def byp (l : List Contact) (i : Nat) : Bool := (fst (fun j => (l.getD j z_Contact).Until != 0) i).isSome
def errO (o : Contact) (k : Int) (d b : Bool) : Int :=
  bif decide (o.ID < 1) || decide (o.ID > 9999) || decide (o.Until < 0) || decide (o.Until > 20000000) then 2
  else bif d then 7
  else bif !o.Closed && !o.Latched then 10
  else bif o.Critical && o.Until != 0 then 13
  else bif o.Until != 0 && (k == 0 || b) then 15 else 0
def errAt (c : Chain) (i : Nat) : Int := errO (c.Contacts.getD i z_Contact) c.Key (dup c.Contacts i) (byp c.Contacts i)
def rightS (c : Chain) : Int :=
  bif decide (c.Contacts.length > 32) then 4
  else bif decide (c.Key < 0) || decide (c.Key > 9999) then 2
  else match fst (fun i => errAt c i != 0) c.Contacts.length with
    | some i => errAt c i
    | none => 0
theorem find_lt (l : List Contact) (i : Nat) (hi : i < l.length) : decide (oi (fst (fun j => (l.getD j z_Contact).ID == (l.getD i z_Contact).ID) l.length) < (i : Int)) = dup l i := by
  unfold dup
  cases h : fst (fun j => (l.getD j z_Contact).ID == (l.getD i z_Contact).ID) i with
  | none =>
    rw [fst_none] at h
    have : fst (fun j => (l.getD j z_Contact).ID == (l.getD i z_Contact).ID) l.length = some i := fst_some.2 ⟨hi, by simp, h⟩
    rw [this]
    simp [oi]
  | some j =>
    rw [fst_some] at h
    have : fst (fun j => (l.getD j z_Contact).ID == (l.getD i z_Contact).ID) l.length = some j := fst_some.2 ⟨by omega, h.2⟩
    rw [this]
    simp [oi, h.1]
theorem take_fst (l : List Contact) (i : Nat) (hi : i < l.length) (p : Contact → Bool) : fst (fun j => p ((l.take i).getD j z_Contact)) (l.take i).length = fst (fun j => p (l.getD j z_Contact)) i := by
  have : (l.take i).length = i := by simp; omega
  rw [this]
  exact fst_congr fun j hj => by rw [getD_take _ _ _ _ hj]
theorem oi_nonneg (o : Option Nat) : decide (0 ≤ oi o) = o.isSome := by cases o <;> simp [oi] <;> omega
section
variable {N : Nat} (hN : 1000 < N)
include hN
theorem find_eq (c : Chain) (id : Int) (hl : c.Contacts.length ≤ 1000) : chain_find N c id = some (oi (fst (fun i => (c.Contacts.getD i z_Contact).ID == id) c.Contacts.length)) := by
  unfold chain_find
  rw [search (fun i => (c.Contacts.getD i z_Contact).ID == id) (fun i => (i : Int)) () c.Contacts.length (by omega) (fun i hi => ?_) (by simp)]
  · cases fst _ _ <;> rfl
  · simp [hi, wrapN (show i < 9223372036854775807 by omega)]
theorem rightContact_eq (c : Chain) (hl : c.Contacts.length ≤ 1000) (i : Nat) (hi : i < c.Contacts.length) : chain_rightContact N c i = some (errAt c i) := by
  unfold chain_rightContact
  rw [Int.toNat_natCast]
  have hle : i ≤ c.Contacts.length := by omega
  have hs : whileF N (fun (p6 : Int) =>
      bif decide (p6 < (↑(List.take i c.Contacts).length : Int)) then
        bif decide ((0 : Int) ≤ p6) && decide (p6 < (↑(List.take i c.Contacts).length : Int)) then
          (chain_rightContact_1 N ((List.take i c.Contacts).getD p6.toNat z_Contact)).bind fun (r7 : Bool) =>
            bif r7 then some (Sum.inr (Sum.inr p6)) else some (Sum.inl (IntKind.i64.wrap (p6 + (1 : Int))))
        else none
      else some (Sum.inr (Sum.inl ()))) (0 : Int) = some (sres (fun j => (j : Int)) () (fst (fun j => (c.Contacts.getD j z_Contact).Until != 0) i)) := by
    have hlen : (c.Contacts.take i).length = i := by simp; omega
    rw [hlen]
    refine search _ _ _ i (by omega) (fun j hj => ?_) (by simp)
    have : (List.take i c.Contacts).getD j z_Contact = c.Contacts.getD j z_Contact := getD_take _ _ _ _ hj
    simp [hj, chain_rightContact_1, this, wrapN (show j < 9223372036854775807 by omega)]
  rw [hs, find_eq hN c _ hl]
  have hd := find_lt c.Contacts i hi
  have h1 : decide ((i : Int) < (c.Contacts.length : Int)) = true := by simp [hi]
  have h2 : decide ((i : Int) ≤ (c.Contacts.length : Int)) = true := by simp [hle]
  have h3 : decide ((0 : Int) ≤ (i : Int)) = true := by simp
  have hb : byp c.Contacts i = (fst (fun j => (c.Contacts.getD j z_Contact).Until != 0) i).isSome := rfl
  rw [h1, h2, h3, Option.bind_some, hd]
  unfold errAt errO
  rw [hb]
  generalize fst (fun j => (c.Contacts.getD j z_Contact).Until != 0) i = q
  generalize dup c.Contacts i = dd
  simp only [Bool.and_self, cond_true]
  generalize c.Contacts.getD i z_Contact = o
  cases decide (o.ID < 1) <;> cases decide (o.ID > 9999) <;> cases decide (o.Until < 0) <;> cases decide (o.Until > 20000000) <;> try rfl
  cases dd <;> try rfl
  cases o.Closed <;> cases o.Latched <;> try rfl
  all_goals
    cases o.Critical <;> cases hU : (o.Until != 0) <;> try rfl
    all_goals
      cases q <;> cases c.Key == 0 <;> simp [hU, sres]
theorem right_eq (c : Chain) : chain_Right N c = some (rightS c) := by
  unfold chain_Right rightS
  by_cases hl : c.Contacts.length > 32
  · have : (c.Contacts.length : Int) > 32 := by omega
    simp [hl, this]
  · have : ¬ (c.Contacts.length : Int) > 32 := by omega
    simp only [hl, this, decide_false, cond_false]
    cases decide (c.Key < 0) <;> cases decide (c.Key > 9999) <;> try rfl
    simp only [cond_false, Option.bind_some, Bool.or_self]
    rw [search (fun i => errAt c i != 0) (fun i => errAt c i) () c.Contacts.length (by omega) (fun i hi => ?_) (by simp)]
    · cases fst _ _ <;> rfl
    · rw [rightContact_eq hN c (by omega) i hi]
      simp [hi, wrapN (show i < 9223372036854775807 by omega)]
end
def idx (c : Chain) (id : Int) : Option Nat := fst (fun i => (c.Contacts.getD i z_Contact).ID == id) c.Contacts.length
def breakO (o : Contact) : Contact := ⟨o.ID, o.Critical, false, true, o.Until⟩
def makeO (o : Contact) : Contact := ⟨o.ID, o.Critical, true, o.Latched, o.Until⟩
def clearO (o : Contact) : Contact := ⟨o.ID, o.Critical, o.Closed, false, o.Until⟩
def untilO (t : Int) (o : Contact) : Contact := ⟨o.ID, o.Critical, o.Closed, o.Latched, t⟩
def expO (t : Int) (o : Contact) : Contact := bif decide (o.Until ≤ t) then untilO 0 o else o
def at1 (c : Chain) (i : Nat) (f : Contact → Contact) : Chain := ⟨c.Contacts.set i (f (c.Contacts.getD i z_Contact)), c.Key⟩
def expS (c : Chain) (t : Int) : Chain := ⟨c.Contacts.map (expO t), c.Key⟩
def faultO (t : Int) (o : Contact) : Bool := (o.Latched || !o.Closed) && decide (t ≥ o.Until)
def faultsS (c : Chain) (t : Int) : List Int := (c.Contacts.filter (faultO t)).map (·.ID)
def breakS (c : Chain) (id : Int) : Chain × Int := match idx c id with
  | none => (z_Chain, 8)
  | some i => (at1 c i breakO, 0)
def makeS (c : Chain) (id : Int) : Chain × Int := match idx c id with
  | none => (z_Chain, 8)
  | some i => (at1 c i makeO, 0)
def clearS (c : Chain) (id by' : Int) : Chain × Int := match idx c id with
  | none => (z_Chain, 8)
  | some i => bif !(decide (1 ≤ by') && decide (by' ≤ 9999)) then (z_Chain, 17) else bif !(c.Contacts.getD i z_Contact).Closed then (z_Chain, 10) else (at1 c i clearO, 0)
def takeS (c : Chain) (by' : Int) : Chain × Int :=
  bif !(decide (1 ≤ by') && decide (by' ≤ 9999)) then (z_Chain, 17) else bif c.Key != 0 && c.Key != by' then (z_Chain, 15) else bif c.Key == 0 then (⟨c.Contacts, by'⟩, 0) else (⟨c.Contacts.map (untilO 0), 0⟩, 0)
def bypassS (c : Chain) (id by' u : Int) : Chain × Int := match idx c id with
  | none => (z_Chain, 8)
  | some i => bif by' == 0 || by' != c.Key then (z_Chain, 17) else bif (c.Contacts.getD i z_Contact).Critical then (z_Chain, 13)
    else bif (fst (fun k => k != i && (c.Contacts.getD k z_Contact).Until != 0) c.Contacts.length).isSome then (z_Chain, 15)
    else bif decide (u < 1) || decide (u > 20000000) then (z_Chain, 2) else (at1 c i (untilO u), 0)
theorem idx_some {c : Chain} {id : Int} {i : Nat} (h : idx c id = some i) : i < c.Contacts.length ∧ (c.Contacts.getD i z_Contact).ID = id := by
  unfold idx at h
  rw [fst_some] at h
  exact ⟨h.1, by simpa using h.2.1⟩
theorem faults_step {c : Chain} (t : Int) (k : Nat) (hk : k < c.Contacts.length) : ((c.Contacts.take (k + 1)).filter (faultO t)).map (·.ID) = bif faultO t (c.Contacts.getD k z_Contact) then ((c.Contacts.take k).filter (faultO t)).map (·.ID) ++ [(c.Contacts.getD k z_Contact).ID] else ((c.Contacts.take k).filter (faultO t)).map (·.ID) := by
  rw [take_getD _ k z_Contact hk, List.filter_append, List.map_append]
  cases h : faultO t (c.Contacts.getD k z_Contact) <;> simp only [List.filter_cons, h] <;> simp
section
variable {N : Nat} (hN : 1000 < N) {c : Chain} (hl : c.Contacts.length ≤ 1000)
include hN hl
theorem find_idx (id : Int) : chain_find N c id = some (oi (idx c id)) := find_eq hN c id hl
theorem break_eq (id : Int) : chain_Break N c id = some (breakS c id) := by
  unfold chain_Break breakS
  rw [find_idx hN hl]
  cases h : idx c id with
  | none => rfl
  | some i =>
    have hi := (idx_some h).1
    simp only [oi, Option.bind_some, Int.toNat_natCast, clone_eq c hl, List.length_set, getD_set _ _ _ _ _ hi, if_true, List.set_set]
    have h1 : decide ((i : Int) < (c.Contacts.length : Int)) = true := by simp [hi]
    have h2 : decide ((i : Int) < 0) = false := by simp
    have h3 : decide ((0 : Int) ≤ (i : Int)) = true := by simp
    rw [h1, h2, h3]
    rfl
theorem make_eq (id : Int) : chain_Make N c id = some (makeS c id) := by
  unfold chain_Make makeS
  rw [find_idx hN hl]
  cases h : idx c id with
  | none => rfl
  | some i =>
    have hi := (idx_some h).1
    simp only [oi, Option.bind_some, Int.toNat_natCast, clone_eq c hl]
    have h1 : decide ((i : Int) < (c.Contacts.length : Int)) = true := by simp [hi]
    have h2 : decide ((i : Int) < 0) = false := by simp
    have h3 : decide ((0 : Int) ≤ (i : Int)) = true := by simp
    rw [h1, h2, h3]
    rfl
theorem clear_eq (id by' : Int) : chain_Clear N c id by' = some (clearS c id by') := by
  unfold chain_Clear clearS
  rw [find_idx hN hl]
  cases h : idx c id with
  | none => rfl
  | some i =>
    have hi := (idx_some h).1
    simp only [oi, Option.bind_some, Int.toNat_natCast, clone_eq c hl, isPerson_eq]
    have h1 : decide ((i : Int) < (c.Contacts.length : Int)) = true := by simp [hi]
    have h2 : decide ((i : Int) < 0) = false := by simp
    have h3 : decide ((0 : Int) ≤ (i : Int)) = true := by simp
    rw [h1, h2, h3]
    cases (decide (1 ≤ by') && decide (by' ≤ 9999)) <;> cases h4 : (c.Contacts.getD i z_Contact).Closed <;> first | rfl | (simp only [at1, clearO, h4]; rfl) | skip
theorem expire_eq (t : Int) : chain_Expire N c t = some (expS c t) := by
  unfold chain_Expire expS
  rw [clone_eq c hl, Option.bind_some]
  have hT : (c.Contacts.map (expO t)).length = c.Contacts.length := by simp
  refine (bind_while (r0 := c.Contacts.map (expO t)) (whileF_eq (fun k s => s = ((k : Int), mixd (c.Contacts.map (expO t)) c.Contacts k)) c.Contacts.length (by simp [mixd_zero]) (fun k s hk hI => ?_) (fun s hI => ?_) (by omega))).trans ?_
  · subst hI
    left
    have h1 : decide ((k : Int) < (c.Contacts.length : Int)) = true := by simp [hk]
    have h3 : decide ((0 : Int) ≤ (k : Int)) = true := by simp
    refine ⟨_, ?_, rfl⟩
    have hg := getD_map (expO t) c.Contacts k z_Contact z_Contact hk
    simp only [Int.toNat_natCast, mixd_len hT, mixd_getD hT hk, h1, h3, Bool.and_self, cond_true, wrapN (show k < 9223372036854775807 by omega)]
    by_cases hu : (c.Contacts.getD k z_Contact).Until ≤ t
    · rw [mixd_set hT hk _ z_Contact (by rw [hg]; simp only [expO, hu, decide_true, cond_true]; rfl)]
      simp only [hu, decide_true, cond_true, Option.bind_some]
      rfl
    · rw [← mixd_same hT hk z_Contact (by rw [hg]; simp only [expO, hu, decide_false, cond_false])]
      simp only [hu, decide_false, cond_false, Option.bind_some]
      rfl
  · subst hI
    simp [mixd_all hT]
  · rfl
omit hN in
theorem faults_body (t : Int) (k : Nat) (hk : k < c.Contacts.length) : ((((c.Contacts.take k).filter (faultO t)).map (·.ID)).length + 1) * 8 ≤ 140737488355328 := by
  have h1 : ((c.Contacts.take k).filter (faultO t)).length ≤ (c.Contacts.take k).length := List.length_filter_le _ _
  simp only [List.length_map, List.length_take] at *
  omega
theorem faults_eq (t : Int) : chain_Faults N c t = some (faultsS c t) := by
  unfold chain_Faults faultsS
  refine (bind_while (r0 := (c.Contacts.filter (faultO t)).map (·.ID)) (whileF_eq (fun k s => s = (((c.Contacts.take k).filter (faultO t)).map (·.ID), (k : Int))) c.Contacts.length (by simp [mixd_zero]) (fun k s hk hI => ?_) (fun s hI => ?_) (by omega))).trans ?_
  · subst hI
    left
    have h1 : decide ((k : Int) < (c.Contacts.length : Int)) = true := by simp [hk]
    have h3 : decide ((0 : Int) ≤ (k : Int)) = true := by simp
    have h4 : ∀ y : Int, decide (((((c.Contacts.take k).filter (faultO t)).map (·.ID)).length + [y].length) * 8 ≤ 140737488355328) = true := fun y => by
      simp only [decide_eq_true_eq]
      exact faults_body hl t k hk
    refine ⟨(((c.Contacts.take (k + 1)).filter (faultO t)).map (·.ID), (k + 1 : Nat)), ?_, rfl⟩
    rw [faults_step t k hk]
    simp only [h1, h3, h4, cond_true, Int.toNat_natCast, Option.bind_some, wrapN (show k < 9223372036854775807 by omega), Bool.and_self]
    unfold faultO
    cases h5 : (c.Contacts.getD k z_Contact).Latched <;> cases h6 : (c.Contacts.getD k z_Contact).Closed <;> cases h7 : decide (t ≥ (c.Contacts.getD k z_Contact).Until) <;> rfl
  · subst hI
    simp
  · rfl
end
structure Val (c : Chain) : Prop where
  len : c.Contacts.length ≤ 32
  key : 0 ≤ c.Key ∧ c.Key ≤ 9999
  ids : ∀ i, i < c.Contacts.length → 1 ≤ (c.Contacts.getD i z_Contact).ID ∧ (c.Contacts.getD i z_Contact).ID ≤ 9999
  unt : ∀ i, i < c.Contacts.length → 0 ≤ (c.Contacts.getD i z_Contact).Until ∧ (c.Contacts.getD i z_Contact).Until ≤ 20000000
  dis : ∀ i j, i < c.Contacts.length → j < i → (c.Contacts.getD j z_Contact).ID ≠ (c.Contacts.getD i z_Contact).ID
  st : ∀ i, i < c.Contacts.length → (c.Contacts.getD i z_Contact).Closed = true ∨ (c.Contacts.getD i z_Contact).Latched = true
  crit : ∀ i, i < c.Contacts.length → (c.Contacts.getD i z_Contact).Critical = true → (c.Contacts.getD i z_Contact).Until = 0
  byp : ∀ i, i < c.Contacts.length → (c.Contacts.getD i z_Contact).Until ≠ 0 → c.Key ≠ 0 ∧ ∀ j, j < i → (c.Contacts.getD j z_Contact).Until = 0
theorem dup_false {l : List Contact} {i : Nat} : dup l i = false ↔ ∀ j, j < i → (l.getD j z_Contact).ID ≠ (l.getD i z_Contact).ID := by
  unfold dup
  rw [Option.isSome_eq_false_iff, Option.isNone_iff_eq_none, fst_none]
  constructor <;> intro h j hj <;> simpa using h j hj
theorem byp_false {l : List Contact} {i : Nat} : byp l i = false ↔ ∀ j, j < i → (l.getD j z_Contact).Until = 0 := by
  unfold byp
  rw [Option.isSome_eq_false_iff, Option.isNone_iff_eq_none, fst_none]
  constructor <;> intro h j hj <;> simpa using h j hj
theorem errO_zero {o : Contact} {k : Int} {d b : Bool} : errO o k d b = 0 ↔ (1 ≤ o.ID ∧ o.ID ≤ 9999) ∧ (0 ≤ o.Until ∧ o.Until ≤ 20000000) ∧ d = false ∧ (o.Closed = true ∨ o.Latched = true) ∧ (o.Critical = true → o.Until = 0) ∧ (o.Until ≠ 0 → k ≠ 0 ∧ b = false) := by
  unfold errO
  by_cases h1 : o.ID < 1
  · simp [h1]; omega
  by_cases h2 : o.ID > 9999
  · simp [h1, h2]; omega
  by_cases h3 : o.Until < 0
  · simp [h1, h2, h3]; omega
  by_cases h4 : o.Until > 20000000
  · simp [h1, h2, h3, h4]; omega
  have e1 : (1 ≤ o.ID ∧ o.ID ≤ 9999) := by omega
  have e2 : (0 ≤ o.Until ∧ o.Until ≤ 20000000) := by omega
  simp only [h1, h2, h3, h4, decide_false, Bool.or_self, cond_false, e1, e2, and_self, true_and]
  cases d
  · cases o.Closed <;> cases o.Latched <;> cases o.Critical <;> by_cases h5 : o.Until = 0 <;> by_cases h6 : k = 0 <;> cases b <;> simp [Bool.cond_eq_ite, h5, h6]
  · simp
theorem right_zero {c : Chain} : rightS c = 0 ↔ Val c := by
  unfold rightS
  by_cases h1 : c.Contacts.length > 32
  · simp only [h1, decide_true, cond_true]
    exact ⟨fun h => absurd h (by decide), fun h => absurd h.len (by omega)⟩
  by_cases h2 : c.Key < 0
  · simp only [h1, h2, decide_true, decide_false, cond_true, cond_false, Bool.true_or]
    exact ⟨fun h => absurd h (by decide), fun h => absurd h.key.1 (by omega)⟩
  by_cases h3 : c.Key > 9999
  · simp only [h1, h2, h3, decide_true, decide_false, cond_true, cond_false, Bool.or_true]
    exact ⟨fun h => absurd h (by decide), fun h => absurd h.key.2 (by omega)⟩
  simp only [h1, h2, h3, decide_false, cond_false, Bool.or_self]
  have hv : Val c ↔ ∀ i, i < c.Contacts.length → errAt c i = 0 := by
    constructor
    · intro v i hi
      unfold errAt
      rw [errO_zero]
      exact ⟨v.ids i hi, v.unt i hi, dup_false.2 fun j hj => v.dis i j hi hj, v.st i hi, v.crit i hi, fun h => ⟨(v.byp i hi h).1, byp_false.2 (v.byp i hi h).2⟩⟩
    · intro h
      have h' : ∀ i, i < c.Contacts.length → _ := fun i hi => errO_zero.1 (h i hi)
      exact ⟨by omega, by omega, fun i hi => (h' i hi).1, fun i hi => (h' i hi).2.1, fun i j hi hj => dup_false.1 (h' i hi).2.2.1 j hj, fun i hi => (h' i hi).2.2.2.1, fun i hi => (h' i hi).2.2.2.2.1, fun i hi hu => ⟨((h' i hi).2.2.2.2.2 hu).1, byp_false.1 ((h' i hi).2.2.2.2.2 hu).2⟩⟩
  rw [hv]
  cases hf : fst (fun i => errAt c i != 0) c.Contacts.length with
  | none =>
    rw [fst_none] at hf
    exact ⟨fun _ i hi => by simpa using hf i hi, fun _ => rfl⟩
  | some i =>
    rw [fst_some] at hf
    have h4 : errAt c i ≠ 0 := by simpa using hf.2.1
    exact ⟨fun h => absurd h h4, fun h => absurd (h i hf.1) h4⟩
section
variable {N : Nat} (hN : 1000 < N) {c : Chain}
include hN
theorem take_eq (hl : c.Contacts.length ≤ 1000) (by' : Int) : chain_Take N c by' = some (takeS c by') := by
  unfold chain_Take takeS
  rw [isPerson_eq, clone_eq c hl]
  cases (decide (1 ≤ by') && decide (by' ≤ 9999)) <;> try rfl
  cases h2 : c.Key == 0 <;> cases h3 : c.Key == by' <;> simp only [bne, h2, h3, Option.bind_some, cond_true, cond_false, Bool.not_true, Bool.not_false, Bool.and_self, Bool.and_false, Bool.false_and, Bool.and_true]
  have hT : (c.Contacts.map (untilO 0)).length = c.Contacts.length := by simp
  refine (bind_while (r0 := c.Contacts.map (untilO 0)) (whileF_eq (fun k s => s = ((k : Int), mixd (c.Contacts.map (untilO 0)) c.Contacts k)) c.Contacts.length (by simp [mixd_zero]) (fun k s hk hI => ?_) (fun s hI => ?_) (by omega))).trans ?_
  · subst hI
    left
    have h1 : decide ((k : Int) < (c.Contacts.length : Int)) = true := by simp [hk]
    have h3 : decide ((0 : Int) ≤ (k : Int)) = true := by simp
    refine ⟨_, ?_, rfl⟩
    have hg := getD_map (untilO 0) c.Contacts k z_Contact z_Contact hk
    simp only [Int.toNat_natCast, mixd_len hT, mixd_getD hT hk, h1, h3, Bool.and_self, cond_true, wrapN (show k < 9223372036854775807 by omega)]
    rw [mixd_set hT hk _ z_Contact (by rw [hg]; rfl)]
    rfl
  · subst hI
    simp [mixd_all hT]
  · rfl
theorem bypass_eq (hl : c.Contacts.length ≤ 1000) (id by' u : Int) : chain_Bypass N c id by' u = some (bypassS c id by' u) := by
  unfold chain_Bypass bypassS
  rw [find_idx hN hl]
  cases h : idx c id with
  | none => rfl
  | some i =>
    have hi := (idx_some h).1
    simp only [oi, Option.bind_some, Int.toNat_natCast, clone_eq c hl]
    have h1 : decide ((i : Int) < (c.Contacts.length : Int)) = true := by simp [hi]
    have h2 : decide ((i : Int) < 0) = false := by simp
    have h3 : decide ((0 : Int) ≤ (i : Int)) = true := by simp
    simp only [h1, h2, h3, Bool.and_self, cond_true, cond_false]
    cases h4 : by' == 0 <;> cases h5 : by' == c.Key <;> simp only [bne, h5, Option.bind_some, cond_true, cond_false, Bool.not_true, Bool.not_false, Bool.or_self, Bool.or_true, Bool.true_or, Bool.or_false]
    cases h6 : (c.Contacts.getD i z_Contact).Critical <;> simp only [cond_true, cond_false]
    have hw : whileF N (fun (p6 : Int × Chain) =>
        bif decide (p6.fst < (↑c.Contacts.length : Int)) then
          (bif !(p6.fst == (i : Int)) then
                bif decide ((0 : Int) ≤ p6.fst) && decide (p6.fst < (↑c.Contacts.length : Int)) then
                  some (!((c.Contacts.getD (Int.toNat p6.fst) z_Contact).Until == (0 : Int)))
                else none
              else some false).bind
            fun (r7 : Bool) =>
            bif r7 then some (Sum.inr (Sum.inr ((15 : Int), z_Chain)))
            else some (Sum.inl (IntKind.i64.wrap (p6.fst + (1 : Int)), p6.snd))
        else some (Sum.inr (Sum.inl p6.snd))) ((0 : Int), z_Chain) = some (sres (fun _ => ((15 : Int), z_Chain)) z_Chain (fst (fun k => !(k == i) && !((c.Contacts.getD k z_Contact).Until == 0)) c.Contacts.length)) := by
      refine whileF_eq (fun k s => s = ((k : Int), z_Chain) ∧ ∀ j, j < k → (!(j == i) && !((c.Contacts.getD j z_Contact).Until == 0)) = false) c.Contacts.length ⟨rfl, fun j hj => by omega⟩ (fun k s hk hI => ?_) (fun s hI => ?_) (by omega)
      · obtain ⟨rfl, hI⟩ := hI
        have g1 : decide ((k : Int) < (c.Contacts.length : Int)) = true := by simp [hk]
        have g3 : decide ((0 : Int) ≤ (k : Int)) = true := by simp
        have g4 : ((k : Int) == (i : Int)) = (k == i) := by rw [Bool.eq_iff_iff]; simp [Int.ofNat_inj]
        simp only [g1, g3, g4, Bool.and_self, cond_true, Int.toNat_natCast, wrapN (show k < 9223372036854775807 by omega)]
        cases hp : (!(k == i) && !((c.Contacts.getD k z_Contact).Until == 0)) with
        | false =>
          left
          refine ⟨((k + 1 : Nat), z_Chain), ?_, rfl, fun j hj => by rcases Nat.lt_succ_iff_lt_or_eq.1 hj with h | rfl; exact hI j h; exact hp⟩
          cases e1 : k == i <;> cases e2 : (c.Contacts.getD k z_Contact).Until == 0 <;> simp only [e1, e2] at hp <;> first | rfl | cases hp
        | true =>
          right
          rw [fst_some.2 ⟨hk, hp, hI⟩]
          cases e1 : k == i <;> cases e2 : (c.Contacts.getD k z_Contact).Until == 0 <;> simp only [e1, e2] at hp <;> first | rfl | cases hp
      · obtain ⟨rfl, hI⟩ := hI
        rw [fst_none.2 hI]
        simp [sres]
    rw [hw]
    generalize fst (fun k => !(k == i) && !((c.Contacts.getD k z_Contact).Until == 0)) c.Contacts.length = q
    cases q with
    | none =>
      simp only [sres, Sum.elim_inl, Option.bind_some, Option.isSome_none, cond_false]
      cases decide (u < 1) <;> cases decide (u > 20000000) <;> first | rfl | (simp only [at1, untilO, h6]; rfl)
    | some k => rfl
end
theorem faults_expire {c : Chain} (v : Val c) (t : Int) : faultsS (expS c t) t = faultsS c t := by
  unfold faultsS expS
  simp only [List.filter_map, List.map_map]
  have h1 : c.Contacts.filter (faultO t ∘ expO t) = c.Contacts.filter (faultO t) := by
    refine List.filter_congr fun o ho => ?_
    obtain ⟨i, hi, rfl⟩ := mem_getD z_Contact ho
    have hu := (v.unt i hi).1
    generalize c.Contacts.getD i z_Contact = o at hu
    simp only [Function.comp, faultO, expO]
    by_cases h : o.Until ≤ t
    · have : t ≥ 0 := by omega
      simp [h, untilO, this]
    · simp [h]
  rw [h1]
  refine List.map_congr_left fun o _ => ?_
  simp only [Function.comp, expO]
  cases decide (o.Until ≤ t) <;> rfl
def opS (c : Chain) (x : Op) : Chain × Int :=
  bif x.Kind == 0 then breakS c x.ID else bif x.Kind == 1 then makeS c x.ID else bif x.Kind == 2 then clearS c x.ID x.By
  else bif x.Kind == 3 then takeS c x.By else bif x.Kind == 4 then bypassS c x.ID x.By x.Time else (expS c x.Time, 0)
def doS (c : Chain) (x : Op) : Chain × Bool := bif (opS c x).2 != 0 then (c, false) else ((opS c x).1, true)
inductive Did (c : Chain) (x : Op) : Chain → Prop
  | break (i : Nat) (hk : x.Kind = 0) (hi : idx c x.ID = some i) : Did c x (at1 c i breakO)
  | make (i : Nat) (hk : x.Kind = 1) (hi : idx c x.ID = some i) : Did c x (at1 c i makeO)
  | clear (i : Nat) (hk : x.Kind = 2) (hi : idx c x.ID = some i) (hc : (c.Contacts.getD i z_Contact).Closed = true) : Did c x (at1 c i clearO)
  | take (hk : x.Kind = 3) (hb : 1 ≤ x.By ∧ x.By ≤ 9999) (h0 : c.Key = 0) : Did c x ⟨c.Contacts, x.By⟩
  | give (hk : x.Kind = 3) : Did c x ⟨c.Contacts.map (untilO 0), 0⟩
  | bypass (i : Nat) (hk : x.Kind = 4) (hi : idx c x.ID = some i) (hb : x.By ≠ 0) (hb2 : x.By = c.Key) (hc : (c.Contacts.getD i z_Contact).Critical = false)
      (ho : ∀ k, k < c.Contacts.length → k ≠ i → (c.Contacts.getD k z_Contact).Until = 0) (ht : 1 ≤ x.Time ∧ x.Time ≤ 20000000) : Did c x (at1 c i (untilO x.Time))
  | expire (hk : x.Kind ≠ 0 ∧ x.Kind ≠ 1 ∧ x.Kind ≠ 2 ∧ x.Kind ≠ 3 ∧ x.Kind ≠ 4) : Did c x (expS c x.Time)
theorem did {c : Chain} {x : Op} (h : (opS c x).2 = 0) : Did c x (opS c x).1 := by
  unfold opS at *
  cases h0 : x.Kind == 0 <;> simp only [h0, cond_true, cond_false] at h ⊢
  · cases h1 : x.Kind == 1 <;> simp only [h1, cond_true, cond_false] at h ⊢
    · cases h2 : x.Kind == 2 <;> simp only [h2, cond_true, cond_false] at h ⊢
      · cases h3 : x.Kind == 3 <;> simp only [h3, cond_true, cond_false] at h ⊢
        · cases h4 : x.Kind == 4 <;> simp only [h4, cond_true, cond_false] at h ⊢
          · exact .expire (by simp at h0 h1 h2 h3 h4; exact ⟨h0, h1, h2, h3, h4⟩)
          · unfold bypassS at *
            cases hi : idx c x.ID with
            | none => rw [hi] at h; cases h
            | some i =>
              rw [hi] at h
              simp only at h ⊢
              cases e1 : (x.By == 0 || x.By != c.Key) <;> simp only [e1, cond_true, cond_false] at h ⊢
              · cases e2 : (c.Contacts.getD i z_Contact).Critical <;> simp only [e2, cond_true, cond_false] at h ⊢
                · cases e3 : (fst (fun k => k != i && (c.Contacts.getD k z_Contact).Until != 0) c.Contacts.length) with
                  | none =>
                    simp only [e3, Option.isSome_none, cond_false] at h ⊢
                    cases e4 : (decide (x.Time < 1) || decide (x.Time > 20000000)) <;> simp only [e4, cond_true, cond_false] at h ⊢
                    · simp at h4 e1 e4
                      rw [fst_none] at e3
                      refine .bypass i h4 hi e1.1 e1.2 e2 (fun k hk hne => ?_) (by omega)
                      have := e3 k hk
                      simpa [hne] using this
                    · cases h
                  | some k => simp only [e3, Option.isSome_some, cond_true] at h; cases h
                · cases h
              · cases h
        · unfold takeS at *
          cases e1 : (decide (1 ≤ x.By) && decide (x.By ≤ 9999)) <;> simp only [e1, Bool.not_true, Bool.not_false, cond_true, cond_false] at h ⊢
          · cases h
          · cases e2 : (c.Key != 0 && c.Key != x.By) <;> simp only [e2, cond_true, cond_false] at h ⊢
            · cases e3 : c.Key == 0 <;> simp only [e3, cond_true, cond_false] at h ⊢
              · exact .give (by simpa using h3)
              · exact .take (by simpa using h3) (by simpa using e1) (by simpa using e3)
            · cases h
      · unfold clearS at *
        cases hi : idx c x.ID with
        | none => rw [hi] at h; cases h
        | some i =>
          rw [hi] at h
          simp only at h ⊢
          cases e1 : (decide (1 ≤ x.By) && decide (x.By ≤ 9999)) <;> simp only [e1, Bool.not_true, Bool.not_false, cond_true, cond_false] at h ⊢
          · cases h
          · cases e2 : (c.Contacts.getD i z_Contact).Closed <;> simp only [e2, Bool.not_true, Bool.not_false, cond_true, cond_false] at h ⊢
            · cases h
            · exact .clear i (by simpa using h2) hi e2
    · unfold makeS at *
      cases hi : idx c x.ID with
      | none => rw [hi] at h; cases h
      | some i => exact .make i (by simpa using h1) hi
  · unfold breakS at *
    cases hi : idx c x.ID with
    | none => rw [hi] at h; cases h
    | some i => exact .break i (by simpa using h0) hi
theorem doS_cases (c : Chain) (x : Op) : doS c x = (c, false) ∨ ∃ c', doS c x = (c', true) ∧ Did c x c' := by
  unfold doS
  cases h : (opS c x).2 != 0
  · exact .inr ⟨_, rfl, did (by simpa using h)⟩
  · exact .inl rfl
def Sk (c c' : Chain) : Prop := c'.Contacts.length = c.Contacts.length ∧ ∀ i, i < c.Contacts.length → (c'.Contacts.getD i z_Contact).ID = (c.Contacts.getD i z_Contact).ID ∧ (c'.Contacts.getD i z_Contact).Critical = (c.Contacts.getD i z_Contact).Critical
theorem Sk.refl (c : Chain) : Sk c c := ⟨rfl, fun _ _ => ⟨rfl, rfl⟩⟩
theorem Sk.trans {a b c : Chain} (h : Sk a b) (h' : Sk b c) : Sk a c := ⟨h'.1.trans h.1, fun i hi => ⟨(h'.2 i (by rw [h.1]; exact hi)).1.trans (h.2 i hi).1, (h'.2 i (by rw [h.1]; exact hi)).2.trans (h.2 i hi).2⟩⟩
theorem at1_getD {c : Chain} {i : Nat} (hi : i < c.Contacts.length) (f : Contact → Contact) (j : Nat) : (at1 c i f).Contacts.getD j z_Contact = if i = j then f (c.Contacts.getD j z_Contact) else c.Contacts.getD j z_Contact := by
  simp only [at1]
  rw [getD_set _ _ _ _ _ hi]
  by_cases h : i = j
  · subst h; rfl
  · rw [if_neg h, if_neg h]
theorem Did.sk {c c' : Chain} {x : Op} (h : Did c x c') : Sk c c' := by
  have one : ∀ (i : Nat) (f : Contact → Contact), idx c x.ID = some i → (∀ o, (f o).ID = o.ID ∧ (f o).Critical = o.Critical) → Sk c (at1 c i f) := fun i f hi hf =>
    ⟨by simp [at1], fun j hj => by
      rw [at1_getD (idx_some hi).1]
      by_cases hij : i = j
      · rw [if_pos hij]; exact hf _
      · rw [if_neg hij]; exact ⟨rfl, rfl⟩⟩
  have all : ∀ (f : Contact → Contact) (k : Int), (∀ o, (f o).ID = o.ID ∧ (f o).Critical = o.Critical) → Sk c ⟨c.Contacts.map f, k⟩ := fun f k hf =>
    ⟨by simp, fun j hj => by
      show ((c.Contacts.map f).getD j z_Contact).ID = _ ∧ ((c.Contacts.map f).getD j z_Contact).Critical = _
      rw [getD_map f c.Contacts j z_Contact z_Contact hj]; exact hf _⟩
  cases h with
  | «break» i hk hi => exact one i _ hi fun o => ⟨rfl, rfl⟩
  | make i hk hi => exact one i _ hi fun o => ⟨rfl, rfl⟩
  | clear i hk hi => exact one i _ hi fun o => ⟨rfl, rfl⟩
  | bypass i hk hi => exact one i _ hi fun o => ⟨rfl, rfl⟩
  | take => exact ⟨rfl, fun _ _ => ⟨rfl, rfl⟩⟩
  | give => exact all _ _ fun o => ⟨rfl, rfl⟩
  | expire => exact all _ _ fun o => by unfold expO; cases decide (o.Until ≤ x.Time) <;> exact ⟨rfl, rfl⟩
theorem Val.low {c c' : Chain} (v : Val c) (hs : Sk c c') (hk : c'.Key = c.Key) (hst : ∀ i, i < c.Contacts.length → (c'.Contacts.getD i z_Contact).Closed = true ∨ (c'.Contacts.getD i z_Contact).Latched = true)
    (hu : ∀ i, i < c.Contacts.length → (c'.Contacts.getD i z_Contact).Until = (c.Contacts.getD i z_Contact).Until ∨ (c'.Contacts.getD i z_Contact).Until = 0) : Val c' where
  len := by rw [hs.1]; exact v.len
  key := by rw [hk]; exact v.key
  ids := fun i hi => by rw [hs.1] at hi; rw [(hs.2 i hi).1]; exact v.ids i hi
  unt := fun i hi => by
    rw [hs.1] at hi
    rcases hu i hi with h | h <;> rw [h]
    · exact v.unt i hi
    · omega
  dis := fun i j hi hj => by rw [hs.1] at hi; rw [(hs.2 i hi).1, (hs.2 j (by omega)).1]; exact v.dis i j hi hj
  st := fun i hi => by rw [hs.1] at hi; exact hst i hi
  crit := fun i hi hc => by
    rw [hs.1] at hi
    rw [(hs.2 i hi).2] at hc
    rcases hu i hi with h | h <;> rw [h]
    exact v.crit i hi hc
  byp := fun i hi hn => by
    rw [hs.1] at hi
    rcases hu i hi with h | h
    · rw [h] at hn
      obtain ⟨h1, h2⟩ := v.byp i hi hn
      refine ⟨by rw [hk]; exact h1, fun j hj => ?_⟩
      rcases hu j (by omega) with h3 | h3 <;> rw [h3]
      exact h2 j hj
    · exact absurd h hn
theorem Did.val {c c' : Chain} {x : Op} (v : Val c) (h : Did c x c') : Val c' := by
  have hs := h.sk
  have one : ∀ (i : Nat) (f : Contact → Contact), idx c x.ID = some i → Sk c (at1 c i f) → (∀ o, (f o).Until = o.Until) → ((f (c.Contacts.getD i z_Contact)).Closed = true ∨ (f (c.Contacts.getD i z_Contact)).Latched = true) → Val (at1 c i f) := fun i f hi hs hf hc =>
    v.low hs rfl (fun j hj => by
      rw [at1_getD (idx_some hi).1]
      by_cases hij : i = j
      · subst hij; rw [if_pos rfl]; exact hc
      · rw [if_neg hij]; exact v.st j hj) (fun j hj => by
      rw [at1_getD (idx_some hi).1]
      by_cases hij : i = j
      · rw [if_pos hij, hf]; exact .inl rfl
      · rw [if_neg hij]; exact .inl rfl)
  cases h with
  | «break» i hk hi => exact one i _ hi hs (fun o => rfl) (.inr rfl)
  | make i hk hi => exact one i _ hi hs (fun o => rfl) (.inl rfl)
  | clear i hk hi hc => exact one i _ hi hs (fun o => rfl) (.inl hc)
  | take hk hb h0 =>
    exact { len := v.len, key := ⟨by show 0 ≤ x.By; omega, hb.2⟩, ids := v.ids, unt := v.unt, dis := v.dis, st := v.st, crit := v.crit, byp := fun i hi hn => absurd h0 (v.byp i hi hn).1 }
  | give =>
    have hg : ∀ i, i < c.Contacts.length → (c.Contacts.map (untilO 0)).getD i z_Contact = untilO 0 (c.Contacts.getD i z_Contact) := fun i hi => getD_map _ _ _ _ _ hi
    have hl : (c.Contacts.map (untilO 0)).length = c.Contacts.length := by simp
    have w : Val ⟨c.Contacts.map (untilO 0), c.Key⟩ := v.low ⟨hl, fun i hi => by simp only [hg i hi]; exact ⟨rfl, rfl⟩⟩ rfl (fun i hi => by simp only [hg i hi]; exact v.st i hi) (fun i hi => by simp only [hg i hi]; exact .inr rfl)
    exact { len := w.len, key := by simp, ids := w.ids, unt := w.unt, dis := w.dis, st := w.st, crit := w.crit, byp := fun i hi hn => absurd (by rw [show (Chain.mk (c.Contacts.map (untilO 0)) 0).Contacts.getD i z_Contact = _ from hg i (by rw [← hl]; exact hi)]; rfl) hn }
  | expire =>
    have hg : ∀ i, i < c.Contacts.length → (expS c x.Time).Contacts.getD i z_Contact = expO x.Time (c.Contacts.getD i z_Contact) := fun i hi => getD_map _ _ _ _ _ hi
    refine v.low hs rfl (fun i hi => ?_) (fun i hi => ?_)
    · rw [hg i hi]
      have := v.st i hi
      unfold expO
      cases decide ((c.Contacts.getD i z_Contact).Until ≤ x.Time) <;> exact this
    · rw [hg i hi]
      unfold expO
      cases decide ((c.Contacts.getD i z_Contact).Until ≤ x.Time)
      · exact .inl rfl
      · exact .inr rfl
  | bypass i hk hi hb hb2 hc ho ht =>
    have hil := (idx_some hi).1
    have hg := at1_getD hil (untilO x.Time)
    have hl : (at1 c i (untilO x.Time)).Contacts.length = c.Contacts.length := hs.1
    have w : ∀ k, k < c.Contacts.length → k ≠ i → ((at1 c i (untilO x.Time)).Contacts.getD k z_Contact).Until = 0 := fun k hk hne => by
      rw [hg, if_neg (Ne.symm hne)]; exact ho k hk hne
    have wi : ((at1 c i (untilO x.Time)).Contacts.getD i z_Contact).Until = x.Time := by rw [hg, if_pos rfl]; rfl
    exact {
      len := by rw [hl]; exact v.len
      key := v.key
      ids := fun j hj => by rw [hl] at hj; rw [(hs.2 j hj).1]; exact v.ids j hj
      unt := fun j hj => by
        rw [hl] at hj
        by_cases hji : j = i
        · subst hji; rw [wi]; omega
        · rw [w j hj hji]; omega
      dis := fun j k hj hk => by rw [hl] at hj; rw [(hs.2 j hj).1, (hs.2 k (by omega)).1]; exact v.dis j k hj hk
      st := fun j hj => by
        rw [hl] at hj
        rw [hg]
        have := v.st j hj
        by_cases hji : i = j
        · rw [if_pos hji]; exact this
        · rw [if_neg hji]; exact this
      crit := fun j hj hcr => by
        rw [hl] at hj
        rw [(hs.2 j hj).2] at hcr
        by_cases hji : j = i
        · subst hji; rw [hc] at hcr; cases hcr
        · exact w j hj hji
      byp := fun j hj hn => by
        rw [hl] at hj
        refine ⟨fun h => hb (hb2.trans h), fun k hk => ?_⟩
        by_cases hji : j = i
        · exact w k (by omega) (by omega)
        · exact absurd (w j hj hji) hn }
theorem idx_at {c : Chain} (v : Val c) {p i : Nat} (hp : p < c.Contacts.length) {y : Int} (hi : idx c y = some i) (hy : (c.Contacts.getD p z_Contact).ID = y) : i = p := by
  obtain ⟨h1, h2⟩ := idx_some hi
  rcases Nat.lt_trichotomy i p with h | h | h
  · exact absurd (h2.trans hy.symm) (v.dis p i hp h)
  · exact h
  · exact absurd (hy.trans h2.symm) (v.dis i p h1 h)
end Go.Proofs.YthjmbcnohgaihaaGreat.Ch

/- The lift: what the functions of the drive and the queue do. No condition. -/
namespace Go.Proofs.YthjmbcnohgaihaaGreat
open Go.Cm Go.Proofs
/-! the drive -/
structure Mot (m : Motor) : Prop where
  max : 500 ≤ m.Max ∧ m.Max ≤ 12000
  up : 50 ≤ m.Up ∧ m.Up ≤ 2000
  down : 50 ≤ m.Down ∧ m.Down ≤ 2000
  stop : m.Down ≤ m.Stop ∧ m.Stop ≤ 5000
structure Vd (m : Motor) (d : Drive) : Prop where
  state : 0 ≤ d.State ∧ d.State ≤ 3
  speed : 0 ≤ d.Speed ∧ d.Speed ≤ m.Max
  moved : 0 ≤ d.Moved ∧ d.Moved ≤ 1125899906842624
  stands : d.State = 0 → d.Speed = 0
  runs : d.State = 1 → 1 ≤ d.Target ∧ d.Target ≤ m.Max
  rest : d.State ≠ 1 → d.Target = 0
def nextD (m : Motor) (d : Drive) : Int := bif d.State == 1 then (bif decide (d.Speed < d.Target) then min (d.Speed + m.Up) d.Target else max (d.Speed - m.Down) d.Target) else bif d.State == 2 then max (d.Speed - m.Down) 0 else bif d.State == 3 then max (d.Speed - m.Stop) 0 else d.Speed
def stepD (m : Motor) (d : Drive) : Drive := Drive.mk (bif d.State == 2 && nextD m d == 0 then 0 else d.State) (nextD m d) d.Target ((d.Moved + nextD m d) % 1125899906842625)
def haltD (d : Drive) : Drive := bif d.State == 1 then Drive.mk 2 d.Speed 0 d.Moved else d
def emerD (d : Drive) : Drive := Drive.mk 3 d.Speed 0 d.Moved
def startD (m : Motor) (d : Drive) (x : Int) : Drive × Int := bif d.State == 2 || d.State == 3 then (z_Drive, 10) else bif decide (1 ≤ x) && decide (x ≤ m.Max) then (Drive.mk 1 d.Speed x d.Moved, 0) else (z_Drive, 2)
def resetD (d : Drive) : Drive × Int := bif d.State != 3 || d.Speed != 0 then (z_Drive, 10) else (Drive.mk 0 d.Speed d.Target d.Moved, 0)
theorem within_eq (N : Nat) (x a b : Int) : drive_within N x a b = some (decide (a ≤ x) && decide (x ≤ b)) := by
  unfold drive_within
  simp only [cond_and, Option.bind_some]
theorem dright_eq (N : Nat) (m : Motor) : ∃ b, drive_Right N m = some b ∧ (b = true ↔ Mot m) := by
  unfold drive_Right
  simp only [within_eq, Option.bind_some, cond_and]
  refine ⟨_, rfl, ?_⟩
  simp only [Bool.and_eq_true, decide_eq_true_eq]
  exact ⟨fun h => ⟨h.1, h.2.1, h.2.2.1, h.2.2.2⟩, fun h => ⟨h.max, h.up, h.down, h.stop⟩⟩
theorem dvalid_eq (N : Nat) (m : Motor) (d : Drive) : ∃ b, drive_Valid N m d = some b ∧ (b = true ↔ Vd m d) := by
  unfold drive_Valid
  simp only [within_eq, Option.bind_some, cond_or, cond_and]
  cases h1 : (!(decide (0 ≤ d.State) && decide (d.State ≤ 3)) || (!(decide (0 ≤ d.Speed) && decide (d.Speed ≤ m.Max)) || !(decide (0 ≤ d.Moved) && decide (d.Moved ≤ 1125899906842624)))) with
  | true =>
    refine ⟨false, rfl, fun h => (by cases h), fun h => ?_⟩
    have a := h.state
    have b := h.speed
    have c := h.moved
    simp only [Bool.or_eq_true, Bool.not_eq_true', Bool.and_eq_false_iff, decide_eq_false_iff_not] at h1
    omega
  | false =>
    simp only [Bool.or_eq_false_iff, Bool.not_eq_false', Bool.and_eq_true, decide_eq_true_eq] at h1
    rw [cond_false]
    cases h2 : (d.State == 0) && (d.Speed != 0) with
    | true =>
      rw [Bool.and_eq_true, beq_iff_eq, bne_iff_ne] at h2
      exact ⟨false, rfl, fun h => (by cases h), fun h => absurd (h.stands h2.1) h2.2⟩
    | false =>
      rw [cond_false]
      have h3 : d.State = 0 → d.Speed = 0 := fun h0 => by
        rw [h0] at h2
        simpa using h2
      cases h4 : d.State == 1 with
      | true =>
        rw [beq_iff_eq] at h4
        refine ⟨_, rfl, ?_⟩
        simp only [Bool.and_eq_true, decide_eq_true_eq]
        exact ⟨fun h => ⟨h1.1, h1.2.1, h1.2.2, h3, fun _ => h, fun h5 => absurd h4 h5⟩, fun h => h.runs h4⟩
      | false =>
        rw [beq_eq_false_iff_ne] at h4
        refine ⟨_, rfl, ?_⟩
        rw [beq_iff_eq]
        exact ⟨fun h => ⟨h1.1, h1.2.1, h1.2.2, h3, fun h5 => absurd h5 h4, fun _ => h⟩, fun h => h.rest h4⟩
theorem next_eq (N : Nat) {m : Motor} {d : Drive} (hm : Mot m) (v : Vd m d) : drive_next N m d = some (nextD m d) ∧ 0 ≤ nextD m d ∧ nextD m d ≤ m.Max ∧ (d.State = 0 → nextD m d = 0) := by
  have a := hm.max
  have b := hm.up
  have c := hm.down
  have e := hm.stop
  have f := v.speed
  have g := v.runs
  have g0 := v.stands
  unfold drive_next nextD
  rw [wrap64 (z := d.Speed + m.Up) (by omega) (by omega), wrap64 (z := d.Speed - m.Down) (by omega) (by omega), wrap64 (z := d.Speed - m.Stop) (by omega) (by omega)]
  cases h1 : d.State == 1 with
  | true =>
    rw [beq_iff_eq] at h1
    have g := g h1
    cases h2 : decide (d.Speed < d.Target) with
    | true => rw [decide_eq_true_eq] at h2; simp only [cond_true]; exact ⟨trivial, by omega, by omega, by omega⟩
    | false => rw [decide_eq_false_iff_not] at h2; simp only [cond_true, cond_false]; exact ⟨trivial, by omega, by omega, by omega⟩
  | false =>
    rw [beq_eq_false_iff_ne] at h1
    cases h2 : d.State == 2 with
    | true => rw [beq_iff_eq] at h2; simp only [cond_true, cond_false]; exact ⟨trivial, by omega, by omega, by omega⟩
    | false =>
      cases h3 : d.State == 3 with
      | true => rw [beq_iff_eq] at h3; simp only [cond_true, cond_false]; exact ⟨trivial, by omega, by omega, by omega⟩
      | false => simp only [cond_false]; exact ⟨trivial, by omega, by omega, fun h0 => g0 h0⟩
theorem step_eq {N : Nat} (hN : 1000 < N) {m : Motor} {d : Drive} (hm : Mot m) (v : Vd m d) : drive_Step N m d 1 = some (stepD m d) ∧ Vd m (stepD m d) := by
  obtain ⟨e1, b1, b2, b3⟩ := next_eq N hm v
  have hs := v.state
  have hmx := hm.max
  have hmv := v.moved
  have hr := v.runs
  have hre := v.rest
  have hmod : (IntKind.i64.wrap (d.Moved + nextD m d)).tmod 1125899906842625 = (d.Moved + nextD m d) % 1125899906842625 := by
    rw [wrap64 (by omega) (by omega), Int.tmod_eq_emod_of_nonneg (by omega)]
  constructor
  · unfold drive_Step
    have c1 : min (max (1 : Int) 0) 3600 = 1 := by decide
    refine (bindT (fun i : Nat => ((i : Int), if i = 0 then d else stepD m d)) rfl (stepD m d) 1 (show 1 < N by omega) (fun i hi => ?_) ?_).trans rfl
    · have hi : i = 0 := by omega
      subst hi
      have c2 : decide (((0 : Nat) : Int) < 1) = true := by decide
      have c3 : IntKind.i64.wrap (((0 : Nat) : Int) + 1) = ((0 + 1 : Nat) : Int) := by decide
      simp only [c1, c2, cond_true, if_true, e1, Option.bind_some, cond_and, hmod, c3, Nat.zero_add, Nat.one_ne_zero, if_false]
      unfold stepD
      cases (d.State == 2 && nextD m d == 0) <;> rfl
    · have c2 : decide (((1 : Nat) : Int) < 1) = false := by decide
      simp only [c1, c2, cond_false, Nat.one_ne_zero, if_false]
  · have hst : (stepD m d).State = d.State ∨ (d.State = 2 ∧ nextD m d = 0 ∧ (stepD m d).State = 0) := by
      unfold stepD
      cases h1 : (d.State == 2 && nextD m d == 0) with
      | true => rw [Bool.and_eq_true, beq_iff_eq, beq_iff_eq] at h1; exact .inr ⟨h1.1, h1.2, rfl⟩
      | false => exact .inl rfl
    refine ⟨?_, ⟨b1, b2⟩, ?_, fun h => ?_, fun h => ?_, fun h => ?_⟩
    · rcases hst with h | ⟨_, _, h⟩ <;> rw [h] <;> omega
    · show 0 ≤ (d.Moved + nextD m d) % 1125899906842625 ∧ (d.Moved + nextD m d) % 1125899906842625 ≤ 1125899906842624
      omega
    · show nextD m d = 0
      rcases hst with h1 | ⟨_, h1, _⟩
      · exact b3 (by omega)
      · exact h1
    · show 1 ≤ d.Target ∧ d.Target ≤ m.Max
      rcases hst with h1 | ⟨_, _, h1⟩
      · exact hr (by omega)
      · omega
    · show d.Target = 0
      rcases hst with h1 | ⟨h1, _, _⟩
      · exact hre (by omega)
      · exact hre (by omega)
theorem halt_eq (N : Nat) (m : Motor) (d : Drive) : drive_Halt N m d = some (haltD d) := by
  unfold drive_Halt haltD
  cases d.State == 1 <;> rfl
theorem halt_ok {m : Motor} {d : Drive} (v : Vd m d) : Vd m (haltD d) ∧ (haltD d).State ≠ 1 ∧ (haltD d).Speed = d.Speed := by
  unfold haltD
  cases h : d.State == 1 with
  | true => exact ⟨⟨by simp, v.speed, v.moved, fun h => by simp at h, fun h => by simp at h, fun _ => rfl⟩, by simp, rfl⟩
  | false => rw [beq_eq_false_iff_ne] at h; exact ⟨v, h, rfl⟩
theorem emer_ok {m : Motor} {d : Drive} (v : Vd m d) : Vd m (emerD d) ∧ (emerD d).State = 3 ∧ (emerD d).Speed = d.Speed :=
  ⟨⟨by simp [emerD], v.speed, v.moved, fun h => by simp [emerD] at h, fun h => by simp [emerD] at h, fun _ => rfl⟩, rfl, rfl⟩
theorem start_eq (N : Nat) (m : Motor) (d : Drive) (x : Int) : drive_Start N m d x = some (startD m d x) := by
  unfold drive_Start startD
  simp only [cond_or, Option.bind_some, within_eq]
  cases (d.State == 2 || d.State == 3) with
  | true => rfl
  | false => cases (decide (1 ≤ x) && decide (x ≤ m.Max)) <;> rfl
theorem start_ok {m : Motor} {d : Drive} (v : Vd m d) {x : Int} (h : (startD m d x).2 = 0) : Vd m (startD m d x).1 ∧ (startD m d x).1.State = 1 ∧ (startD m d x).1.Target = x ∧ (startD m d x).1.Speed = d.Speed := by
  unfold startD at h ⊢
  cases h1 : (d.State == 2 || d.State == 3) with
  | true => rw [h1] at h; cases h
  | false =>
    cases h2 : (decide (1 ≤ x) && decide (x ≤ m.Max)) with
    | false => rw [h1, h2] at h; cases h
    | true =>
      simp only [Bool.and_eq_true, decide_eq_true_eq] at h2
      exact ⟨⟨by simp, v.speed, v.moved, fun h => by simp at h, fun _ => h2, fun h => by simp at h⟩, rfl, rfl, rfl⟩
theorem reset_eq (N : Nat) (m : Motor) (d : Drive) : drive_Reset N m d = some (resetD d) := by
  unfold drive_Reset resetD
  simp only [cond_or, Option.bind_some]
  cases (d.State != 3 || d.Speed != 0) <;> rfl
theorem reset_ok {m : Motor} {d : Drive} (v : Vd m d) (h : (resetD d).2 = 0) : Vd m (resetD d).1 ∧ (resetD d).1.State = 0 := by
  unfold resetD at h ⊢
  cases h1 : (d.State != 3 || d.Speed != 0) with
  | true => rw [h1] at h; cases h
  | false =>
    simp only [Bool.or_eq_false_iff, bne_eq_false_iff_eq] at h1
    exact ⟨⟨by simp, v.speed, v.moved, fun _ => h1.2, fun h => by simp at h, fun _ => v.rest (by omega)⟩, rfl⟩
/-! the queue -/
structure QOk (q : Queue) : Prop where
  len : q.Groups.length ≤ 200
  sing : 0 ≤ q.Singles ∧ q.Singles ≤ 10000
  grp : ∀ g, g ∈ q.Groups → 1 ≤ g ∧ g ≤ 16
def qlen (q : Queue) : Int := q.Singles + q.Groups.sum
theorem sum_ge {l : List Int} (h : ∀ g, g ∈ l → 1 ≤ g ∧ g ≤ 16) : 0 ≤ l.sum ∧ l.sum ≤ 16 * l.length := by
  induction l with
  | nil => simp
  | cons a l ih =>
    have h1 := h a (List.mem_cons_self ..)
    have h2 := ih fun g hg => h g (List.mem_cons_of_mem _ hg)
    simp only [List.sum_cons, List.length_cons]
    omega
theorem qok_empty : QOk z_Queue := ⟨by decide, by decide, fun g hg => by cases hg⟩
section
variable {N : Nat} (hN : 1000 < N)
include hN
theorem qright_eq (q : Queue) : ∃ b, queue_Right N q = some b ∧ (b = true ↔ QOk q) := by
  unfold queue_Right
  simp only [cond_or, Option.bind_some]
  cases h1 : (decide ((q.Groups.length : Int) > 200) || (decide (q.Singles < 0) || decide (q.Singles > 10000))) with
  | true =>
    refine ⟨false, rfl, fun h => (by cases h), fun h => ?_⟩
    have a := h.len
    have b := h.sing
    simp only [Bool.or_eq_true, decide_eq_true_eq] at h1
    omega
  | false =>
    simp only [Bool.or_eq_false_iff, decide_eq_false_iff_not] at h1
    have hl : q.Groups.length ≤ 200 := by omega
    rw [cond_false, search (fun i => decide (q.Groups.getD i 0 < 1) || decide (q.Groups.getD i 0 > 16)) (fun _ => false) () q.Groups.length (by omega) (fun i hi => ?_) (by simp)]
    · cases hf : fst (fun i => decide (q.Groups.getD i 0 < 1) || decide (q.Groups.getD i 0 > 16)) q.Groups.length with
      | some i =>
        refine ⟨false, rfl, fun h => (by cases h), fun h => ?_⟩
        obtain ⟨a, b, _⟩ := fst_some.1 hf
        have := h.grp _ (getD_mem q.Groups i 0 a)
        simp only [Bool.or_eq_true, decide_eq_true_eq] at b
        omega
      | none =>
        refine ⟨true, rfl, fun _ => ⟨hl, by omega, fun g hg => ?_⟩, fun _ => rfl⟩
        obtain ⟨i, hi, rfl⟩ := mem_getD 0 hg
        have := fst_none.1 hf i hi
        simp only [Bool.or_eq_false_iff, decide_eq_false_iff_not] at this
        omega
    · simp only [dlt hi, dge, Bool.and_self, cond_true, Int.toNat_natCast, cond_or, Option.bind_some, wrapN (show i < 9223372036854775807 by omega)]
omit hN in
theorem qclone_eq {l : List Int} (hl : l.length ≤ 900) : queue_clone N l = some l := by
  unfold queue_clone
  have c1 : decide ((l.length : Int) ≤ (l.length : Int)) = true := by simp
  have c2 : decide ((l.length : Int) * 8 ≤ 140737488355328) = true := by rw [decide_eq_true_eq]; omega
  simp only [c1, c2, Bool.and_self, cond_true, Option.bind_some, Int.toNat_natCast, List.length_replicate, decide_true]
omit hN in
theorem join_eq {q : Queue} (h : QOk q) (n : Int) : W (fun r : Queue × Int => r.2 = 0 → QOk r.1 ∧ qlen r.1 = qlen q + n) (queue_Join N q n) := by
  have hl := h.len
  unfold queue_Join
  simp only [cond_or, Option.bind_some, qclone_eq (N := N) (show q.Groups.length ≤ 900 by omega)]
  refine W_cond (fun _ => W_some fun h => by cases h) (fun h1 => W_cond (fun _ => W_some fun h => by cases h) (fun h2 => ?_))
  simp only [Bool.or_eq_false_iff, decide_eq_false_iff_not] at h1
  rw [decide_eq_false_iff_not] at h2
  have hb : decide ((q.Groups.length + [n].length) * 8 ≤ 140737488355328) = true := by simp only [List.length_singleton, decide_eq_true_eq]; omega
  rw [hb, cond_true]
  refine W_some fun _ => ⟨⟨by simp; omega, h.sing, fun g hg => ?_⟩, ?_⟩
  · rcases List.mem_append.1 hg with hg | hg
    · exact h.grp g hg
    · rw [List.mem_singleton] at hg; omega
  · unfold qlen
    simp only [List.sum_append, List.sum_cons, List.sum_nil]
    omega
omit hN in
theorem single_eq {q : Queue} (h : QOk q) (n : Int) : W (fun r : Queue × Int => r.2 = 0 → QOk r.1 ∧ qlen r.1 = qlen q + n) (queue_Single N q n) := by
  have hl := h.len
  have hs := h.sing
  unfold queue_Single
  simp only [cond_or, Option.bind_some, qclone_eq (N := N) (show q.Groups.length ≤ 900 by omega)]
  refine W_cond (fun _ => W_some fun h => by cases h) (fun h1 => W_cond (fun _ => W_some fun h => by cases h) (fun h2 => ?_))
  simp only [Bool.or_eq_false_iff, decide_eq_false_iff_not] at h1
  rw [wrap64 (by omega) (by omega), decide_eq_false_iff_not] at h2
  rw [wrap64 (by omega) (by omega)]
  refine W_some fun _ => ⟨⟨hl, by simp only; omega, h.grp⟩, ?_⟩
  unfold qlen
  simp only
  omega
theorem seat_eq {q : Queue} (h : QOk q) {seats : Int} (h1 : 1 ≤ seats) (h2 : seats ≤ 16) : W (fun r : Queue × Int × Int => r.2.2 = 0 ∧ QOk r.1 ∧ qlen r.1 + r.2.1 = qlen q ∧ 0 ≤ r.2.1 ∧ r.2.1 ≤ seats) (queue_Seat N q seats) := by
  have hl := h.len
  have hs := h.sing
  unfold queue_Seat
  have c0 : (decide (seats < 1) || decide (seats > 16)) = false := by simp only [Bool.or_eq_false_iff, decide_eq_false_iff_not]; omega
  simp only [cond_or, Option.bind_some, c0, cond_false, qclone_eq (N := N) (show q.Groups.length ≤ 900 by omega), Bool.true_and]
  have hloop : (∀ g r, q.Groups = g :: r → g ≤ seats) → W (fun r : Queue × Int × Int => r.2.2 = 0 ∧ QOk r.1 ∧ qlen r.1 + r.2.1 = qlen q ∧ 0 ≤ r.2.1 ∧ r.2.1 ≤ seats) ((whileF N
                (fun (p6 : List Int × Int) =>
                  (bif decide ((↑(List.length p6.fst) : Int) > (0 : Int)) then
                        bif decide ((0 : Int) < (↑(List.length p6.fst) : Int)) then
                          some (decide (List.getD p6.fst 0 (0 : Int) ≤ p6.snd))
                        else none
                      else some false).bind
                    fun (r7 : Bool) =>
                    bif r7 then
                      bif decide ((0 : Int) < (↑(List.length p6.fst) : Int)) then
                        bif decide ((1 : Int) ≤ (↑(List.length p6.fst) : Int)) then
                          some
                            (Sum.inl
                              (List.drop 1 p6.fst,
                                IntKind.i64.wrap (p6.snd - List.getD p6.fst 0 (0 : Int))))
                        else none
                      else none
                    else some (Sum.inr p6))
                (q.Groups, seats)).bind
            fun (r8 : List Int × Int) =>
            some
              (Queue.mk r8.fst (IntKind.i64.wrap (q.Singles - min r8.snd q.Singles)),
                IntKind.i64.wrap (seats - IntKind.i64.wrap (r8.snd - min r8.snd q.Singles)), (0 : Int))) := fun _ => by
    refine W_bind (Q' := fun r : List Int × Int => 0 ≤ r.2 ∧ r.2 ≤ seats ∧ r.1.length ≤ 200 ∧ (∀ g, g ∈ r.1 → 1 ≤ g ∧ g ≤ 16) ∧ r.1.sum + (seats - r.2) = q.Groups.sum) ?_ fun r hr => ?_
    · refine W_loop (fun i st => 0 ≤ st.2 ∧ st.2 + i ≤ seats ∧ st.1.length ≤ 200 ∧ (∀ g, g ∈ st.1 → 1 ≤ g ∧ g ≤ 16) ∧ st.1.sum + (seats - st.2) = q.Groups.sum) 16 ⟨by simp only; omega, by simp, hl, h.grp, by simp only; omega⟩ (fun i st hi hI => ?_) (fun st hI => ?_) (by omega)
      · obtain ⟨l, z⟩ := st
        obtain ⟨a1, a2, a3, a4, a5⟩ := hI
        simp only at a1 a2 a3 a4 a5
        cases l with
        | nil => exact W_some ⟨a1, by omega, a3, a4, a5⟩
        | cons g l =>
          have hg := a4 g (List.mem_cons_self ..)
          have g1 : decide (((g :: l).length : Int) > 0) = true := by simp
          have g2 : decide ((0 : Int) < ((g :: l).length : Int)) = true := by simp
          have g3 : decide ((1 : Int) ≤ ((g :: l).length : Int)) = true := by simp only [List.length_cons, decide_eq_true_eq]; omega
          have g4 : (g :: l).getD 0 (0 : Int) = g := rfl
          simp only [g1, g2, g3, g4, cond_true, Option.bind_some]
          refine W_cond (fun h0 => ?_) (fun _ => W_some ⟨a1, by omega, a3, a4, a5⟩)
          rw [decide_eq_true_eq] at h0
          rw [wrap64 (by omega) (by omega)]
          simp only [List.length_cons, List.sum_cons] at a3 a5
          refine W_some ⟨by simp only; omega, by simp only; omega, ?_, fun g' hg' => a4 g' (List.mem_cons_of_mem _ hg'), ?_⟩
          · show l.length ≤ 200
            omega
          · show l.sum + (seats - (z - g)) = q.Groups.sum
            omega
      · obtain ⟨l, z⟩ := st
        obtain ⟨a1, a2, a3, a4, a5⟩ := hI
        simp only at a1 a2 a3 a4 a5
        cases l with
        | nil => exact W_some ⟨a1, by omega, a3, a4, a5⟩
        | cons g l =>
          have hg := a4 g (List.mem_cons_self ..)
          have g1 : decide (((g :: l).length : Int) > 0) = true := by simp
          have g2 : decide ((0 : Int) < ((g :: l).length : Int)) = true := by simp
          have g4 : (g :: l).getD 0 (0 : Int) = g := rfl
          have g5 : decide (g ≤ z) = false := by rw [decide_eq_false_iff_not]; omega
          simp only [g1, g2, g4, g5, cond_true, Option.bind_some, cond_false]
          exact W_some ⟨a1, by omega, a3, a4, a5⟩
    · obtain ⟨l, z⟩ := r
      obtain ⟨a1, a2, a3, a4, a5⟩ := hr
      simp only at a1 a2 a3 a4 a5
      simp only
      have hmn : 0 ≤ min z q.Singles ∧ min z q.Singles ≤ z ∧ min z q.Singles ≤ q.Singles := by omega
      rw [wrap64 (z := q.Singles - min z q.Singles) (by omega) (by omega), wrap64 (z := z - min z q.Singles) (by omega) (by omega), wrap64 (by omega) (by omega)]
      refine W_some ⟨rfl, ⟨a3, by simp only; omega, a4⟩, ?_, by simp only; omega, by simp only; omega⟩
      unfold qlen
      simp only
      omega
  cases hg : q.Groups with
  | nil =>
    rw [hg] at hloop
    exact hloop fun g r e => by cases e
  | cons g r =>
    have hgr := h.grp g (by rw [hg]; exact List.mem_cons_self ..)
    have g1 : decide (((g :: r).length : Int) > 0) = true := by simp
    have g2 : decide ((0 : Int) < ((g :: r).length : Int)) = true := by simp
    have g4 : (g :: r).getD 0 (0 : Int) = g := rfl
    simp only [g1, g2, g4, cond_true, Option.bind_some]
    refine W_cond (fun h0 => ?_) (fun h0 => ?_)
    · rw [decide_eq_true_eq] at h0
      rw [wrap64 (by omega) (by omega)]
      have hl' := hl
      rw [hg] at hl'
      refine W_some ⟨rfl, ⟨by simp only [List.length_set]; exact hl', hs, fun g' hg' => ?_⟩, ?_, by simp only; omega, by simp only; omega⟩
      · rcases List.mem_cons.1 hg' with rfl | hg'
        · omega
        · exact h.grp g' (by rw [hg]; exact List.mem_cons_of_mem _ hg')
      · show q.Singles + ((g - seats) + r.sum) + seats = qlen q
        unfold qlen
        rw [hg, List.sum_cons]
        omega
    · rw [hg] at hloop
      rw [decide_eq_false_iff_not] at h0
      exact hloop fun g' r' e => by cases e; omega
end
end Go.Proofs.YthjmbcnohgaihaaGreat

/- The lift: what the functions of the rope do. No condition. -/
namespace Go.Proofs.YthjmbcnohgaihaaGreat
open Go.Cm Go.Proofs
def posR (l : Line) (i : Nat) : Int := (l.Offset + (i : Int) * l.Spacing) % l.Loop
structure RopeOk (l : Line) (seats : Int) : Prop where
  spc : 5000 ≤ l.Spacing ∧ l.Spacing ≤ 1000000
  len : 1 ≤ l.Load.length ∧ l.Load.length ≤ 200
  loop : l.Loop = (l.Load.length : Int) * l.Spacing
  even : l.Loop % 2 = 0
  off : 0 ≤ l.Offset ∧ l.Offset < l.Loop
  load : ∀ i, i < l.Load.length → 0 ≤ l.Load.getD i 0 ∧ l.Load.getD i 0 ≤ seats ∧ (l.Load.getD i 0 ≠ 0 → posR l i < l.Loop / 2)
def peopleS (l : Line) : Int := l.Load.sum
theorem loop_bound {l : Line} {s : Int} (h : RopeOk l s) : 5000 ≤ l.Loop ∧ l.Loop ≤ 200000000 := by
  have a := h.spc
  have b := h.len
  have k1 : 1 * 5000 ≤ (l.Load.length : Int) * l.Spacing := Int.mul_le_mul (by omega) (by omega) (by omega) (by omega)
  have k2 : (l.Load.length : Int) * l.Spacing ≤ 200 * 1000000 := Int.mul_le_mul (by omega) (by omega) (by omega) (by omega)
  rw [h.loop]
  omega
theorem mul_bound {l : Line} {s : Int} (h : RopeOk l s) {i : Nat} (hi : i < l.Load.length) : 0 ≤ (i : Int) * l.Spacing ∧ (i : Int) * l.Spacing ≤ 200000000 := by
  have a := h.spc
  have b := h.len
  have k1 : 0 ≤ (i : Int) * l.Spacing := Int.mul_nonneg (by omega) (by omega)
  have k2 : (i : Int) * l.Spacing ≤ 200 * 1000000 := Int.mul_le_mul (by omega) (by omega) (by omega) (by omega)
  omega
theorem pos_bound {l : Line} {s : Int} (h : RopeOk l s) (i : Nat) : 0 ≤ posR l i ∧ posR l i < l.Loop := by
  have := loop_bound h
  exact ⟨Int.emod_nonneg _ (by omega), Int.emod_lt_of_pos _ (by omega)⟩
theorem pos_eq (N : Nat) {l : Line} {s : Int} (h : RopeOk l s) {i : Nat} (hi : i < l.Load.length) : rope_position N l (i : Int) = some (posR l i) := by
  have a := loop_bound h
  have b := mul_bound h hi
  have c := h.off
  unfold rope_position posR
  have n0 : (l.Loop != 0) = true := by rw [bne_iff_ne]; omega
  rw [n0, cond_true, wrap64 (z := (i : Int) * l.Spacing) (by omega) (by omega), wrap64 (by omega) (by omega), Int.tmod_eq_emod_of_nonneg (by omega)]
theorem exists_eq (N : Nat) (l : Line) (i : Int) : rope_exists N l i = some (decide (i ≥ 0) && decide (i < (l.Load.length : Int))) := by
  unfold rope_exists
  simp only [cond_and, Option.bind_some]
theorem sum_step0 (l : List Int) (i : Nat) (hi : i < l.length) : (l.take (i + 1)).sum = (l.take i).sum + l.getD i 0 := by
  rw [take_getD l i 0 hi, List.sum_append]
  simp
theorem sum_le {l : List Int} {b : Int} (h : ∀ i, i < l.length → 0 ≤ l.getD i 0 ∧ l.getD i 0 ≤ b) (i : Nat) (hi : i ≤ l.length) : 0 ≤ (l.take i).sum ∧ (l.take i).sum ≤ b * i := by
  induction i with
  | zero => simp
  | succ i ih =>
    have a := ih (by omega)
    have q := h i (by omega)
    rw [sum_step0 l i (by omega), Int.natCast_add, Int.mul_add]
    omega
section
variable {N : Nat} (hN : 1000 < N)
include hN
theorem people_eq {l : Line} {s : Int} (h : RopeOk l s) (hs : s ≤ 16) : rope_People N l = some (peopleS l) := by
  have hl := h.len
  unfold rope_People peopleS
  refine (bindT (fun i => ((l.Load.take i).sum, (i : Int))) rfl l.Load.sum l.Load.length (show l.Load.length < N by omega) (fun i hi => ?_) ?_).trans rfl
  · have hb := sum_le (b := 16) (fun j hj => by have := h.load j hj; omega) (i + 1) (show i + 1 ≤ l.Load.length by omega)
    have e := sum_step0 l.Load i hi
    simp only [dlt hi, dge, Bool.and_self, cond_true, Int.toNat_natCast, wrapC (show i < 9223372036854775807 by omega)]
    rw [e] at hb ⊢
    rw [wrap64 (by omega) (by omega)]
  · simp only [dnlt, cond_false, List.take_length]
theorem ropeRight_eq (l : Line) (s : Int) : ∃ b, rope_Right N l s = some b ∧ (b = true ↔ RopeOk l s) := by
  unfold rope_Right
  simp only [cond_or, Option.bind_some]
  cases h1 : (decide (l.Spacing < 5000) || (decide (l.Spacing > 1000000) || (decide ((l.Load.length : Int) < 1) || decide ((l.Load.length : Int) > 200)))) with
  | true =>
    refine ⟨false, rfl, fun h => (by cases h), fun h => ?_⟩
    have a := h.spc
    have b := h.len
    simp only [Bool.or_eq_true, decide_eq_true_eq] at h1
    omega
  | false =>
    simp only [Bool.or_eq_false_iff, decide_eq_false_iff_not] at h1
    rw [cond_false]
    have k1 : 1 * 5000 ≤ (l.Load.length : Int) * l.Spacing := Int.mul_le_mul (by omega) (by omega) (by omega) (by omega)
    have k2 : (l.Load.length : Int) * l.Spacing ≤ 200 * 1000000 := Int.mul_le_mul (by omega) (by omega) (by omega) (by omega)
    rw [wrap64 (by omega) (by omega)]
    cases h2 : ((l.Loop != (l.Load.length : Int) * l.Spacing) || ((l.Loop.tmod 2 != 0) || (decide (l.Offset < 0) || decide (l.Offset ≥ l.Loop)))) with
    | true =>
      refine ⟨false, rfl, fun h => (by cases h), fun h => ?_⟩
      have a := h.loop
      have b := h.even
      have c := h.off
      have d := loop_bound h
      rw [Int.tmod_eq_emod_of_nonneg (by omega)] at h2
      simp only [Bool.or_eq_true, decide_eq_true_eq, bne_iff_ne] at h2
      omega
    | false =>
      simp only [Bool.or_eq_false_iff, decide_eq_false_iff_not, bne_eq_false_iff_eq] at h2
      obtain ⟨e1, e2, e3, e4⟩ := h2
      rw [Int.tmod_eq_emod_of_nonneg (by omega)] at e2
      rw [cond_false]
      have hpos : ∀ i, i < l.Load.length → rope_position N l (i : Int) = some (posR l i) := fun i hi => by
        have b1 : 0 ≤ (i : Int) * l.Spacing := Int.mul_nonneg (by omega) (by omega)
        have b2 : (i : Int) * l.Spacing ≤ 200 * 1000000 := Int.mul_le_mul (by omega) (by omega) (by omega) (by omega)
        unfold rope_position posR
        have n0 : (l.Loop != 0) = true := by rw [bne_iff_ne]; omega
        rw [n0, cond_true, wrap64 (z := (i : Int) * l.Spacing) (by omega) (by omega), wrap64 (by omega) (by omega), Int.tmod_eq_emod_of_nonneg (by omega)]
      have hhalf : IntKind.i64.wrap (l.Loop.tdiv 2) = l.Loop / 2 := by rw [Int.tdiv_eq_ediv_of_nonneg (by omega), wrap64 (by omega) (by omega)]
      rw [search (fun i => (decide (l.Load.getD i 0 < 0) || decide (l.Load.getD i 0 > s)) || (l.Load.getD i 0 != 0 && decide (posR l i ≥ l.Loop / 2))) (fun _ => false) () l.Load.length (by omega) (fun i hi => ?_) (by simp)]
      · cases hf : fst (fun i => (decide (l.Load.getD i 0 < 0) || decide (l.Load.getD i 0 > s)) || (l.Load.getD i 0 != 0 && decide (posR l i ≥ l.Loop / 2))) l.Load.length with
        | some i =>
          refine ⟨false, rfl, fun h => (by cases h), fun h => ?_⟩
          obtain ⟨a, b, _⟩ := fst_some.1 hf
          have q := h.load i a
          simp only [Bool.or_eq_true, Bool.and_eq_true, decide_eq_true_eq, bne_iff_ne] at b
          rcases b with b | ⟨b, c⟩
          · omega
          · have := q.2.2 b
            omega
        | none =>
          refine ⟨true, rfl, fun _ => ⟨by omega, by omega, e1, e2, by omega, fun i hi => ?_⟩, fun _ => rfl⟩
          have := fst_none.1 hf i hi
          simp only [Bool.or_eq_false_iff, Bool.and_eq_false_iff, decide_eq_false_iff_not, bne_eq_false_iff_eq] at this
          obtain ⟨a, b⟩ := this
          refine ⟨by omega, by omega, fun h0 => ?_⟩
          rcases b with b | b
          · exact absurd b h0
          · omega
      · simp only [dlt hi, dge, Bool.and_self, cond_true, Int.toNat_natCast, hpos i hi, hhalf, Option.bind_some, wrapN (show i < 9223372036854775807 by omega), cond_and]
        cases (decide (l.Load.getD i 0 < 0) || decide (l.Load.getD i 0 > s)) <;> rfl
end
end Go.Proofs.YthjmbcnohgaihaaGreat

/- The lift: what Move, Load and Take of the rope do, and that the line stays right. No condition. -/
namespace Go.Proofs.YthjmbcnohgaihaaGreat
open Go.Cm Go.Proofs
/-! a line moves -/
def hitR (l : Line) (d : Int) (i : Nat) : Bool := decide (posR l i < l.Loop / 2) && decide (posR l i + d ≥ l.Loop / 2)
def ldR (l : Line) (d : Int) (i : Nat) : Int := bif hitR l d i then 0 else l.Load.getD i 0
def ldsR (l : Line) (d : Int) : List Int := (List.range l.Load.length).map (ldR l d)
def leftR (l : Line) (d : Int) : Nat → Int
  | 0 => 0
  | k + 1 => leftR l d k + bif hitR l d k then l.Load.getD k 0 else 0
def passR (l : Line) (d : Int) : Nat → Int
  | 0 => -1
  | k + 1 => bif decide (posR l k + d ≥ l.Loop) then (k : Int) else passR l d k
def moveR (l : Line) (d : Int) : Line := ⟨l.Loop, l.Spacing, (l.Offset + d) % l.Loop, ldsR l d⟩
theorem ldsR_len (l : Line) (d : Int) : (ldsR l d).length = l.Load.length := by simp [ldsR]
theorem ldsR_getD (l : Line) (d : Int) {i : Nat} (hi : i < l.Load.length) : (ldsR l d).getD i 0 = ldR l d i := by
  unfold ldsR
  rw [getD_map _ _ i 0 _ (by simp; exact hi)]
  simp [List.getD, List.getElem?_range hi]
theorem move_pos {l : Line} {s d : Int} (h : RopeOk l s) (h0 : 0 ≤ d) (h1 : d ≤ l.Spacing) (i : Nat) : posR (moveR l d) i = if posR l i + d < l.Loop then posR l i + d else posR l i + d - l.Loop := by
  have a := loop_bound h
  have b := pos_bound h i
  have c : l.Spacing ≤ l.Loop := by
    have := h.len
    have := h.spc
    rw [h.loop]
    have k : 1 * l.Spacing ≤ (l.Load.length : Int) * l.Spacing := Int.mul_le_mul_of_nonneg_right (by omega) (by omega)
    omega
  have e : posR (moveR l d) i = (posR l i + d) % l.Loop := by
    unfold posR moveR
    simp only
    rw [Int.emod_add_emod, Int.emod_add_emod]
    congr 1
    omega
  rw [e]
  split
  · exact Int.emod_eq_of_lt (by omega) (by omega)
  · rw [show posR l i + d = (posR l i + d - l.Loop) + l.Loop by omega, Int.add_emod_right, Int.emod_eq_of_lt (by omega) (by omega)]
    omega
theorem move_ok {l : Line} {s d : Int} (h : RopeOk l s) (h0 : 0 ≤ d) (h1 : d ≤ l.Spacing) : RopeOk (moveR l d) s := by
  have a := loop_bound h
  refine ⟨h.spc, ?_, ?_, h.even, ⟨Int.emod_nonneg _ (by omega), Int.emod_lt_of_pos _ (by omega)⟩, fun i hi => ?_⟩
  · show 1 ≤ (ldsR l d).length ∧ (ldsR l d).length ≤ 200
    rw [ldsR_len]
    exact h.len
  · show l.Loop = ((ldsR l d).length : Int) * l.Spacing
    rw [ldsR_len]
    exact h.loop
  · have hi' : i < l.Load.length := by
      have : (moveR l d).Load.length = l.Load.length := ldsR_len l d
      omega
    have q := h.load i hi'
    rw [move_pos h h0 h1]
    show 0 ≤ (ldsR l d).getD i 0 ∧ (ldsR l d).getD i 0 ≤ s ∧ ((ldsR l d).getD i 0 ≠ 0 → _ < l.Loop / 2)
    rw [ldsR_getD l d hi']
    unfold ldR
    cases hh : hitR l d i with
    | true =>
      simp only [cond_true]
      exact ⟨by omega, by omega, fun h => absurd rfl h⟩
    | false =>
      simp only [cond_false]
      refine ⟨q.1, q.2.1, fun hn => ?_⟩
      have q2 := q.2.2 hn
      unfold hitR at hh
      simp only [Bool.and_eq_false_iff, decide_eq_false_iff_not] at hh
      split <;> omega
theorem leftR_bound {l : Line} {s d : Int} (h : RopeOk l s) (k : Nat) (hk : k ≤ l.Load.length) : 0 ≤ leftR l d k ∧ leftR l d k ≤ s * k := by
  induction k with
  | zero => simp [leftR]
  | succ k ih =>
    have a := ih (by omega)
    have q := h.load k (by omega)
    unfold leftR
    rw [Int.natCast_add, Int.mul_add]
    cases hitR l d k with
    | true => simp only [cond_true]; omega
    | false => simp only [cond_false]; omega
theorem move_sum {l : Line} {d : Int} (k : Nat) (hk : k ≤ l.Load.length) : ((ldsR l d).take k).sum + leftR l d k = (l.Load.take k).sum := by
  induction k with
  | zero => simp [leftR]
  | succ k ih =>
    have a := ih (by omega)
    rw [sum_step0 _ k (by rw [ldsR_len]; omega), sum_step0 _ k (by omega), ldsR_getD l d (by omega)]
    unfold leftR ldR
    cases hitR l d k with
    | true => simp only [cond_true]; omega
    | false => simp only [cond_false]; omega
theorem move_people {l : Line} (d : Int) : peopleS (moveR l d) + leftR l d l.Load.length = peopleS l := by
  have := move_sum (l := l) (d := d) l.Load.length (Nat.le_refl _)
  rw [List.take_of_length_le (by rw [ldsR_len]; omega), List.take_length] at this
  exact this
theorem passR_spec {l : Line} {d : Int} (k : Nat) : passR l d k = -1 ∨ ∃ i : Nat, i < k ∧ passR l d k = i ∧ posR l i + d ≥ l.Loop := by
  induction k with
  | zero => exact .inl rfl
  | succ k ih =>
    unfold passR
    cases h : decide (posR l k + d ≥ l.Loop) with
    | true => exact .inr ⟨k, by omega, rfl, by simpa using h⟩
    | false =>
      rcases ih with h | ⟨i, a, b, c⟩
      · exact .inl h
      · exact .inr ⟨i, by omega, b, c⟩
/-! a carrier is loaded -/
def setR (l : Line) (i : Nat) (n : Int) : Line := ⟨l.Loop, l.Spacing, l.Offset, l.Load.set i n⟩
theorem set_ok {l : Line} {s : Int} (h : RopeOk l s) {i : Nat} (hi : i < l.Load.length) {n : Int} (h0 : 0 ≤ n) (h1 : n ≤ s) (hp : n ≠ 0 → posR l i < l.Loop / 2) : RopeOk (setR l i n) s := by
  refine ⟨h.spc, ?_, ?_, h.even, h.off, fun j hj => ?_⟩
  · show 1 ≤ (l.Load.set i n).length ∧ (l.Load.set i n).length ≤ 200
    rw [List.length_set]
    exact h.len
  · show l.Loop = ((l.Load.set i n).length : Int) * l.Spacing
    rw [List.length_set]
    exact h.loop
  · have hj' : j < l.Load.length := by
      have : (setR l i n).Load.length = l.Load.length := List.length_set
      omega
    show 0 ≤ (l.Load.set i n).getD j 0 ∧ (l.Load.set i n).getD j 0 ≤ s ∧ ((l.Load.set i n).getD j 0 ≠ 0 → posR l j < l.Loop / 2)
    rw [getD_set _ _ _ _ _ hi]
    split
    · next e => subst e; exact ⟨h0, h1, hp⟩
    · exact h.load j hj'
theorem sum_set (l : List Int) (i : Nat) (hi : i < l.length) (n : Int) : (l.set i n).sum = l.sum - l.getD i 0 + n := by
  induction l generalizing i with
  | nil => exact absurd hi (by simp)
  | cons a l ih =>
    cases i with
    | zero => simp [List.getD]; omega
    | succ i =>
      have := ih i (by simpa using hi)
      simp only [List.set_cons_succ, List.sum_cons, List.getD_cons_succ]
      omega
theorem set_people (l : Line) {i : Nat} (hi : i < l.Load.length) (n : Int) : peopleS (setR l i n) = peopleS l - l.Load.getD i 0 + n := sum_set l.Load i hi n
/-! the carrier that passed the lower station can be loaded -/
theorem pass_free {l : Line} {s d : Int} (h : RopeOk l s) (h0 : 0 ≤ d) (h1 : 2 * d ≤ l.Spacing) {i : Nat} (hi : i < l.Load.length) (hp : posR l i + d ≥ l.Loop) : posR (moveR l d) i < l.Spacing ∧ posR (moveR l d) i < l.Loop / 2 ∧ (moveR l d).Load.getD i 0 = 0 := by
  have a := loop_bound h
  have b := pos_bound h i
  have sp := h.spc
  have ev := h.even
  have c : l.Spacing ≤ l.Loop := by
    have := h.len
    rw [h.loop]
    have k : 1 * l.Spacing ≤ (l.Load.length : Int) * l.Spacing := Int.mul_le_mul_of_nonneg_right (by omega) (by omega)
    omega
  rw [move_pos h h0 (by omega), if_neg (by omega)]
  refine ⟨by omega, by omega, ?_⟩
  show (ldsR l d).getD i 0 = 0
  rw [ldsR_getD l d hi]
  unfold ldR
  have q := h.load i hi
  have : l.Load.getD i 0 = 0 := Decidable.byContradiction fun hn => by
    have := q.2.2 hn
    omega
  rw [this]
  cases hitR l d i <;> rfl
def takeR (l : Line) (i n : Int) : Line × Int := bif !(decide (i ≥ 0) && decide (i < (l.Load.length : Int))) then (z_Line, 8) else bif decide (n < 0) || decide (n > l.Load.getD i.toNat 0) then (z_Line, 2) else (setR l i.toNat (l.Load.getD i.toNat 0 - n), 0)
section
variable {N : Nat} (hN : 1000 < N)
omit hN in
theorem cloneI_eq (l : List Int) (hl : l.length ≤ 900) : sl_Clone_int N l = some l := by
  unfold sl_Clone_int
  have : (0 + l.length) * 8 ≤ 140737488355328 := by omega
  simp only [this, decide_true, cond_true]
theorem half_eq {l : Line} {s : Int} (h : RopeOk l s) : IntKind.i64.wrap (l.Loop.tdiv 2) = l.Loop / 2 := by
  have a := loop_bound h
  rw [Int.tdiv_eq_ediv_of_nonneg (by omega), wrap64 (by omega) (by omega)]
include hN
theorem move_eq {l : Line} {s d : Int} (h : RopeOk l s) (hs : s ≤ 16) (h0 : 0 ≤ d) (h1 : d ≤ l.Spacing) : rope_Move N l d = some (moveR l d, passR l d l.Load.length, leftR l d l.Load.length, 0) := by
  have a := loop_bound h
  have sp := h.spc
  have ln := h.len
  have of := h.off
  have c0 : (decide (d < 0) || decide (d > l.Spacing)) = false := by simp only [Bool.or_eq_false_iff, decide_eq_false_iff_not]; omega
  unfold rope_Move
  simp only [cond_or, Option.bind_some, c0, cond_false, cloneI_eq (N := N) l.Load (by omega), half_eq h]
  have hT := ldsR_len l d
  refine (bindT (fun i => (passR l d i, leftR l d i, (i : Int), mixd (ldsR l d) l.Load i)) (by simp [mixd_zero, passR, leftR]) (passR l d l.Load.length, leftR l d l.Load.length, ldsR l d) l.Load.length (show l.Load.length < N by omega) (fun i hi => ?_) ?_).trans ?_
  · have pb := pos_bound h i
    have lb := leftR_bound (d := d) h (i + 1) (by omega)
    have lb0 := leftR_bound (d := d) h i (by omega)
    have q := h.load i hi
    have sb : s * ((i + 1 : Nat) : Int) ≤ 16 * 200 := by
      have : 0 ≤ s := by omega
      exact Int.mul_le_mul hs (by omega) (by omega) (by omega)
    simp only [dlt hi, dge, mixd_len hT, mixd_getD hT hi, Bool.and_self, cond_true, Int.toNat_natCast, pos_eq N h hi, Option.bind_some, wrap64 (z := posR l i + d) (by omega) (by omega), cond_and, wrapC (show i < 9223372036854775807 by omega)]
    have e1 : (decide (posR l i < l.Loop / 2) && decide (posR l i + d ≥ l.Loop / 2)) = hitR l d i := rfl
    rw [e1]
    have e2 : ∀ x : Int, (bif decide (posR l i + d ≥ l.Loop) then some (i : Int) else some (passR l d i)) = some (passR l d (i + 1)) := fun _ => by
      show _ = some (bif decide (posR l i + d ≥ l.Loop) then (i : Int) else passR l d i)
      cases decide (posR l i + d ≥ l.Loop) <;> rfl
    cases hh : hitR l d i with
    | true =>
      have e3 : leftR l d (i + 1) = leftR l d i + l.Load.getD i 0 := by
        show leftR l d i + (bif hitR l d i then l.Load.getD i 0 else 0) = _
        rw [hh, cond_true]
      rw [e3] at lb
      simp only [cond_true, Option.bind_some, e2 0]
      rw [mixd_set hT hi 0 0 (by rw [ldsR_getD l d hi]; unfold ldR; rw [hh, cond_true]), wrap64 (by omega) (by omega), e3]
    | false =>
      have e3 : leftR l d (i + 1) = leftR l d i := by
        show leftR l d i + (bif hitR l d i then l.Load.getD i 0 else 0) = _
        rw [hh, cond_false, Int.add_zero]
      simp only [cond_false, Option.bind_some, e2 0]
      rw [← mixd_same hT hi 0 (by rw [ldsR_getD l d hi]; unfold ldR; rw [hh, cond_false]), e3]
  · simp only [dnlt, cond_false, mixd_all hT]
  · have n0 : (l.Loop != 0) = true := by rw [bne_iff_ne]; omega
    simp only [n0, cond_true]
    rw [wrap64 (by omega) (by omega), Int.tmod_eq_emod_of_nonneg (by omega)]
    rfl
omit hN in
theorem load_eq {l : Line} {s : Int} (h : RopeOk l s) (hs : s ≤ 16) {i : Nat} (hi : i < l.Load.length) {n : Int} (h0 : 0 ≤ n) (h1 : n ≤ s) (hp : posR l i < l.Spacing) (hp2 : posR l i < l.Loop / 2) (hz : l.Load.getD i 0 = 0) : rope_Load N l (i : Int) n s = some (setR l i n, 0) := by
  have ln := h.len
  unfold rope_Load
  have c1 : (decide ((i : Int) ≥ 0) && decide ((i : Int) < (l.Load.length : Int))) = true := by simp [hi]
  have c2 : decide (posR l i ≥ l.Spacing) = false := by rw [decide_eq_false_iff_not]; omega
  have c3 : decide (posR l i ≥ l.Loop / 2) = false := by rw [decide_eq_false_iff_not]; omega
  have c4 : decide (n < 0) = false := by rw [decide_eq_false_iff_not]; omega
  have c5 : decide (n > s) = false := by rw [decide_eq_false_iff_not]; omega
  have c6 : decide (s > 16) = false := by rw [decide_eq_false_iff_not]; omega
  simp only [exists_eq, c1, Option.bind_some, Bool.not_true, cond_false, pos_eq N h hi, half_eq h, c2, c3, dge, dlt hi, Bool.and_self, cond_true, Int.toNat_natCast, hz, bne_self_eq_false, c4, c5, c6, cloneI_eq (N := N) l.Load (by omega)]
  rfl
omit hN in
theorem take_eq {l : Line} {s : Int} (h : RopeOk l s) (hs : s ≤ 16) (i n : Int) : rope_Take N l i n = some (takeR l i n) := by
  have ln := h.len
  unfold rope_Take takeR
  simp only [exists_eq, Option.bind_some]
  cases c1 : (decide (i ≥ 0) && decide (i < (l.Load.length : Int))) with
  | false => rfl
  | true =>
    have c1' := c1
    simp only [Bool.and_eq_true, decide_eq_true_eq] at c1'
    have c2 : (decide (0 ≤ i) && decide (i < (l.Load.length : Int))) = true := by simp only [Bool.and_eq_true, decide_eq_true_eq]; omega
    have q := h.load i.toNat (by omega)
    simp only [Bool.not_true, cond_false, c2, cond_true, cond_or, Option.bind_some, cloneI_eq (N := N) l.Load (by omega)]
    cases c3 : (decide (n < 0) || decide (n > l.Load.getD i.toNat 0)) with
    | true => rfl
    | false =>
      simp only [Bool.or_eq_false_iff, decide_eq_false_iff_not] at c3
      simp only [cond_false]
      rw [wrap64 (by omega) (by omega)]
      rfl
end
end Go.Proofs.YthjmbcnohgaihaaGreat

/- The lift: the parts of a lift as plain functions: queue, brakes, alarm, checklist. No condition. -/
namespace Go.Proofs.YthjmbcnohgaihaaGreat
open Go.Cm Go.Proofs
/-! the queue -/
def joinS (q : Queue) (n : Int) : Queue × Int := bif decide (n < 1) || decide (n > 16) then (z_Queue, 2) else bif decide ((q.Groups.length : Int) ≥ 200) then (z_Queue, 9) else (⟨q.Groups ++ [n], q.Singles⟩, 0)
def singleS (q : Queue) (n : Int) : Queue × Int := bif decide (n < 1) || decide (n > 1000) then (z_Queue, 2) else bif decide (q.Singles + n > 10000) then (z_Queue, 9) else (⟨q.Groups, q.Singles + n⟩, 0)
def seatL : List Int → Int → List Int × Int
  | [], k => ([], k)
  | g :: r, k => bif decide (g ≤ k) then seatL r (k - g) else (g :: r, k)
def seatR (q : Queue) (seats : Int) : Queue × Int := (⟨(seatL q.Groups seats).1, q.Singles - min (seatL q.Groups seats).2 q.Singles⟩, seats - ((seatL q.Groups seats).2 - min (seatL q.Groups seats).2 q.Singles))
def seatS (q : Queue) (seats : Int) : Queue × Int := match q.Groups with
  | [] => seatR q seats
  | g :: r => bif decide (g > seats) then (⟨(g - seats) :: r, q.Singles⟩, seats) else seatR q seats
/-! the brakes -/
def inB (b : Brake) : Bool := decide (1 ≤ b.ID) && decide (b.ID ≤ 9999) && ((b.Kind == 0 || b.Kind == 1) && (decide (1 ≤ b.Force) && decide (b.Force ≤ 10000000) && (decide (-1 ≤ b.Tested) && decide (b.Tested ≤ 20000000) && (decide (0 ≤ b.Measured) && decide (b.Measured ≤ 10000000) && (b.Tested != -1 || b.Measured == 0)))))
def dupB (l : List Brake) (i : Nat) : Bool := (fst (fun j => (l.getD j z_Brake).ID == (l.getD i z_Brake).ID) i).isSome
def errB (l : List Brake) (i : Nat) : Int := bif !inB (l.getD i z_Brake) then 2 else bif dupB l i then 7 else 0
def rightB (l : List Brake) : Int := bif decide ((l.length : Int) > 8) then 4 else match fst (fun i => errB l i != 0) l.length with
  | some i => errB l i
  | none => 0
def idxB (l : List Brake) (id : Int) : Option Nat := fst (fun i => (l.getD i z_Brake).ID == id) l.length
def testB (l : List Brake) (id m t : Int) : List Brake × Int := match idxB l id with
  | none => ([], 8)
  | some i => bif !(decide (0 ≤ m) && decide (m ≤ 10000000)) || !(decide (0 ≤ t) && decide (t ≤ 20000000)) then ([], 2) else bif decide (t < (l.getD i z_Brake).Tested) then ([], 11) else (l.set i ⟨(l.getD i z_Brake).ID, (l.getD i z_Brake).Kind, (l.getD i z_Brake).Force, t, m⟩, 0)
def nineB (n : Int) : Int := 9 * (n / 10) + (9 * (n % 10) + 9) / 10
def validB (t : Int) (b : Brake) : Bool := decide (b.Tested ≥ 0) && (decide (t ≥ b.Tested) && (decide (t - b.Tested < 604800) && decide (b.Measured ≥ nineB b.Force)))
def forceB (l : List Brake) (k t : Int) : Int := (l.map fun b => bif b.Kind == k && validB t b then b.Measured else 0).sum
def enoughB (l : List Brake) (load t : Int) : Bool := decide (forceB l 0 t ≥ load) && decide (forceB l 1 t ≥ load)
/-! the alarm -/
def badA (a : Alarm) (v t : Int) : Bool := decide (a.Off < 0) || (decide (a.On < a.Off) || (!(decide (0 ≤ a.Hold) && decide (a.Hold ≤ 86400)) || (decide (v < 0) || (!(decide (0 ≤ t) && decide (t ≤ 20000000)) || decide (a.Low > t)))))
def lowA (a : Alarm) (t : Int) : Int := bif decide (a.Low < 0) then t else a.Low
def updA (a : Alarm) (v t : Int) : Alarm × Int := bif badA a v t then (a, 2) else bif decide (v ≥ a.On) then (⟨a.On, a.Off, a.Hold, true, -1⟩, 0) else bif decide (v ≥ a.Off) then (⟨a.On, a.Off, a.Hold, a.Active, -1⟩, 0) else (⟨a.On, a.Off, a.Hold, bif decide (t - lowA a t ≥ a.Hold) then false else a.Active, lowA a t⟩, 0)
/-! the checklist -/
def hasI (l : List Int) (x : Int) : Bool := l.any (· == x)
def errI (l : List Int) (i : Nat) : Int := bif decide (l.getD i 0 < 1) || decide (l.getD i 0 > 9999) then 2 else bif hasI (l.take i) (l.getD i 0) then 7 else 0
def errG (its : List Int) (l : List Sign) (i : Nat) : Int := bif !hasI its (l.getD i z_Sign).Item then 8 else bif decide ((l.getD i z_Sign).By < 1) || decide ((l.getD i z_Sign).By > 9999) then 17 else bif decide ((l.getD i z_Sign).At < 0) || decide ((l.getD i z_Sign).At > 20000000) then 2 else bif decide (0 < i) && decide ((l.getD i z_Sign).At < (l.getD (i - 1) z_Sign).At) then 11 else 0
def rightC (c : Checklist) : Int := bif decide ((c.Items.length : Int) > 64) || decide ((c.Signs.length : Int) > 200) then 4 else bif decide (c.Every < 1) || decide (c.Every > 604800) then 2 else match fst (fun i => errI c.Items i != 0) c.Items.length with
  | some i => errI c.Items i
  | none => match fst (fun i => errG c.Items c.Signs i != 0) c.Signs.length with
    | some i => errG c.Items c.Signs i
    | none => 0
def signC0 (c : Checklist) (it b t : Int) : Checklist := ⟨c.Items, c.Every, c.Signs.filter (fun g => g.Item != it) ++ [⟨it, b, t⟩]⟩
def signC (c : Checklist) (it b t : Int) : Checklist × Int := bif rightC (signC0 c it b t) != 0 then (z_Checklist, rightC (signC0 c it b t)) else (signC0 c it b t, 0)
def countC (c : Checklist) (t it : Int) (g : Sign) : Bool := g.Item == it && (decide (g.At ≤ t) && decide (t < g.At + c.Every))
def openC (c : Checklist) (t : Int) : List Int := c.Items.filter fun it => !c.Signs.any (countC c t it)
def doneC (c : Checklist) (t : Int) : Bool := ((openC c t).length : Int) == 0
theorem join_ex {N : Nat} {q : Queue} (h : QOk q) (n : Int) : queue_Join N q n = some (joinS q n) := by
  have hl := h.len
  unfold queue_Join joinS
  simp only [cond_or, Option.bind_some, qclone_eq (N := N) (show q.Groups.length ≤ 900 by omega)]
  have hb : decide ((q.Groups.length + [n].length) * 8 ≤ 140737488355328) = true := by simp only [List.length_singleton, decide_eq_true_eq]; omega
  rw [hb]
  cases (decide (n < 1) || decide (n > 16)) <;> cases decide ((q.Groups.length : Int) ≥ 200) <;> rfl
theorem single_ex {N : Nat} {q : Queue} (h : QOk q) (n : Int) : queue_Single N q n = some (singleS q n) := by
  have hl := h.len
  have hs := h.sing
  unfold queue_Single singleS
  simp only [cond_or, Option.bind_some, qclone_eq (N := N) (show q.Groups.length ≤ 900 by omega)]
  cases h1 : (decide (n < 1) || decide (n > 1000)) with
  | true => rfl
  | false =>
    simp only [Bool.or_eq_false_iff, decide_eq_false_iff_not] at h1
    rw [wrap64 (by omega) (by omega)]
    cases decide (q.Singles + n > 10000) <;> rfl
theorem seat_ex {N : Nat} (hN : 1000 < N) {q : Queue} (h : QOk q) {seats : Int} (h1 : 1 ≤ seats) (h2 : seats ≤ 16) : queue_Seat N q seats = some ((seatS q seats).1, (seatS q seats).2, 0) := by
  have hl := h.len
  have hs := h.sing
  unfold queue_Seat
  have c0 : (decide (seats < 1) || decide (seats > 16)) = false := by simp only [Bool.or_eq_false_iff, decide_eq_false_iff_not]; omega
  simp only [cond_or, Option.bind_some, c0, cond_false, qclone_eq (N := N) (show q.Groups.length ≤ 900 by omega), Bool.true_and]
  have sb : ∀ (l : List Int) (k : Int), (∀ g, g ∈ l → 1 ≤ g ∧ g ≤ 16) → 0 ≤ k → 0 ≤ (seatL l k).2 ∧ (seatL l k).2 ≤ k := by
    intro l
    induction l with
    | nil => intro k _ hk; exact ⟨hk, Int.le_refl _⟩
    | cons g r ih =>
      intro k hg hk
      unfold seatL
      cases hc : decide (g ≤ k) with
      | false => exact ⟨hk, Int.le_refl _⟩
      | true =>
        rw [decide_eq_true_eq] at hc
        have g1 := hg g (List.mem_cons_self ..)
        have := ih (k - g) (fun x hx => hg x (List.mem_cons_of_mem _ hx)) (by omega)
        rw [cond_true]
        omega
  have hrest : ((whileF N
                (fun (p6 : List Int × Int) =>
                  (bif decide ((↑(List.length p6.fst) : Int) > (0 : Int)) then
                        bif decide ((0 : Int) < (↑(List.length p6.fst) : Int)) then
                          some (decide (List.getD p6.fst 0 (0 : Int) ≤ p6.snd))
                        else none
                      else some false).bind
                    fun (r7 : Bool) =>
                    bif r7 then
                      bif decide ((0 : Int) < (↑(List.length p6.fst) : Int)) then
                        bif decide ((1 : Int) ≤ (↑(List.length p6.fst) : Int)) then
                          some
                            (Sum.inl
                              (List.drop 1 p6.fst,
                                IntKind.i64.wrap (p6.snd - List.getD p6.fst 0 (0 : Int))))
                        else none
                      else none
                    else some (Sum.inr p6))
                (q.Groups, seats)).bind
            fun (r8 : List Int × Int) =>
            some
              (Queue.mk r8.fst (IntKind.i64.wrap (q.Singles - min r8.snd q.Singles)),
                IntKind.i64.wrap (seats - IntKind.i64.wrap (r8.snd - min r8.snd q.Singles)), (0 : Int))) = some ((seatR q seats).1, (seatR q seats).2, 0) := by
    refine (bind_while (r0 := seatL q.Groups seats) (whileF_eq (fun i st => st.1.length + i = q.Groups.length ∧ seatL st.1 st.2 = seatL q.Groups seats ∧ 0 ≤ st.2 ∧ st.2 ≤ 16 ∧ ∀ g, g ∈ st.1 → 1 ≤ g ∧ g ≤ 16) q.Groups.length ⟨rfl, rfl, by simp only; omega, by simp only; omega, h.grp⟩ (fun i st hi hI => ?_) (fun st hI => ?_) (by omega))).trans ?_
    · obtain ⟨l, z⟩ := st
      obtain ⟨a1, a2, a3, a4, a5⟩ := hI
      simp only at a1 a2 a3 a4 a5
      cases l with
      | nil => simp only [List.length_nil] at a1; omega
      | cons g l =>
        have hg := a5 g (List.mem_cons_self ..)
        have g1 : decide (((g :: l).length : Int) > 0) = true := by simp
        have g2 : decide ((0 : Int) < ((g :: l).length : Int)) = true := by simp
        have g3 : decide ((1 : Int) ≤ ((g :: l).length : Int)) = true := by simp only [List.length_cons, decide_eq_true_eq]; omega
        have g4 : (g :: l).getD 0 (0 : Int) = g := rfl
        simp only [g1, g2, g3, g4, cond_true, Option.bind_some]
        replace a2 : (bif decide (g ≤ z) then seatL l (z - g) else (g :: l, z)) = seatL q.Groups seats := a2
        cases hc : decide (g ≤ z) with
        | false =>
          rw [hc, cond_false] at a2
          exact .inr (by rw [cond_false, a2])
        | true =>
          rw [hc, cond_true] at a2
          rw [decide_eq_true_eq] at hc
          refine .inl ⟨(l, z - g), ?_, ?_, a2, ?_, ?_, fun g' hg' => a5 g' (List.mem_cons_of_mem _ hg')⟩
          · rw [cond_true, wrap64 (by omega) (by omega)]; rfl
          · simp only [List.length_cons] at a1 ⊢; omega
          · simp only; omega
          · simp only; omega
    · obtain ⟨l, z⟩ := st
      obtain ⟨a1, a2, a3, a4, a5⟩ := hI
      simp only at a1 a2 a3 a4 a5
      cases l with
      | nil => rw [← a2]; rfl
      | cons g l => simp only [List.length_cons] at a1; omega
    · have b := sb q.Groups seats h.grp (by omega)
      unfold seatR
      have hmn : 0 ≤ min (seatL q.Groups seats).2 q.Singles ∧ min (seatL q.Groups seats).2 q.Singles ≤ (seatL q.Groups seats).2 ∧ min (seatL q.Groups seats).2 q.Singles ≤ q.Singles := by omega
      rw [wrap64 (z := q.Singles - min (seatL q.Groups seats).2 q.Singles) (by omega) (by omega), wrap64 (z := (seatL q.Groups seats).2 - min (seatL q.Groups seats).2 q.Singles) (by omega) (by omega), wrap64 (by omega) (by omega)]
  unfold seatS
  cases hg : q.Groups with
  | nil =>
    rw [hg] at hrest
    exact hrest
  | cons g r =>
    have hgr := h.grp g (by rw [hg]; exact List.mem_cons_self ..)
    have g1 : decide (((g :: r).length : Int) > 0) = true := by simp
    have g2 : decide ((0 : Int) < ((g :: r).length : Int)) = true := by simp
    have g4 : (g :: r).getD 0 (0 : Int) = g := rfl
    simp only [g1, g2, g4, cond_true, Option.bind_some]
    cases hc : decide (g > seats) with
    | true =>
      rw [decide_eq_true_eq] at hc
      simp only [cond_true]
      rw [wrap64 (by omega) (by omega)]
      rfl
    | false =>
      simp only [cond_false]
      rw [hg] at hrest
      exact hrest
/-! brakes -/
section
variable {N : Nat}
theorem bwithin_eq (x a b : Int) : brake_within N x a b = some (decide (a ≤ x) && decide (x ≤ b)) := by
  unfold brake_within
  simp only [cond_and, Option.bind_some]
theorem inB_eq (b : Brake) : brake_inRange N b = some (inB b) := by
  unfold brake_inRange inB
  simp only [bwithin_eq, Option.bind_some]
  cases (decide (1 ≤ b.ID) && decide (b.ID ≤ 9999)) <;> try rfl
  cases (b.Kind == 0) <;> cases (b.Kind == 1) <;> cases (decide (1 ≤ b.Force) && decide (b.Force ≤ 10000000)) <;> cases (decide (-1 ≤ b.Tested) && decide (b.Tested ≤ 20000000)) <;> cases (decide (0 ≤ b.Measured) && decide (b.Measured ≤ 10000000)) <;> cases (b.Tested != -1) <;> rfl
variable (hN : 1000 < N)
include hN
theorem bfind_eq (l : List Brake) (hl : l.length ≤ 900) (id : Int) : brake_find N l id = some (oi (idxB l id)) := by
  unfold brake_find idxB
  rw [search (fun i => (l.getD i z_Brake).ID == id) (fun i => (i : Int)) () l.length (by omega) (fun i hi => ?_) (by simp)]
  · cases fst (fun i => (l.getD i z_Brake).ID == id) l.length <;> rfl
  · simp only [dlt hi, dge, Bool.and_self, cond_true, Int.toNat_natCast, wrapN (show i < 9223372036854775807 by omega)]
theorem bright_eq (l : List Brake) : brake_Right N l = some (rightB l) := by
  unfold brake_Right rightB
  cases h1 : decide ((l.length : Int) > 8) with
  | true => rfl
  | false =>
    rw [decide_eq_false_iff_not] at h1
    rw [cond_false, cond_false, search (fun i => errB l i != 0) (fun i => errB l i) () l.length (by omega) (fun i hi => ?_) (by simp)]
    · cases fst (fun i => errB l i != 0) l.length <;> rfl
    · have hd : decide (oi (idxB (l.take i) (l.getD i z_Brake).ID) ≥ 0) = dupB l i := by
        unfold idxB dupB
        have e : fst (fun j => ((l.take i).getD j z_Brake).ID == (l.getD i z_Brake).ID) (l.take i).length = fst (fun j => (l.getD j z_Brake).ID == (l.getD i z_Brake).ID) i := by
          rw [List.length_take, Nat.min_eq_left (by omega)]
          exact fst_congr fun j hj => by rw [getD_take _ _ _ _ hj]
        rw [e]
        exact Ch.oi_nonneg _
      simp only [dlt hi, dge, dle (Nat.le_of_lt hi), Bool.and_self, cond_true, Int.toNat_natCast, inB_eq, Option.bind_some, bfind_eq hN (l.take i) (by simp; omega), hd, wrapN (show i < 9223372036854775807 by omega)]
      unfold errB
      cases inB (l.getD i z_Brake) <;> cases dupB l i <;> rfl
structure BrOk (b : Brake) : Prop where
  id : 1 ≤ b.ID ∧ b.ID ≤ 9999
  kind : b.Kind = 0 ∨ b.Kind = 1
  force : 1 ≤ b.Force ∧ b.Force ≤ 10000000
  tested : -1 ≤ b.Tested ∧ b.Tested ≤ 20000000
  meas : 0 ≤ b.Measured ∧ b.Measured ≤ 10000000
  both : b.Tested = -1 → b.Measured = 0
omit hN in
theorem inB_iff (b : Brake) : inB b = true ↔ BrOk b := by
  unfold inB
  simp only [Bool.and_eq_true, Bool.or_eq_true, decide_eq_true_eq, beq_iff_eq, bne_iff_ne]
  constructor
  · rintro ⟨a, b, c, d, e, f⟩
    exact ⟨a, b, c, d, e, fun h => f.resolve_left (by simp [h])⟩
  · intro h
    refine ⟨h.id, h.kind, h.force, h.tested, h.meas, ?_⟩
    by_cases h1 : b.Tested = -1
    · exact .inr (h.both h1)
    · exact .inl h1
omit hN in
theorem rightB_iff (l : List Brake) : rightB l = 0 ↔ l.length ≤ 8 ∧ ∀ i, i < l.length → BrOk (l.getD i z_Brake) ∧ ∀ j, j < i → (l.getD j z_Brake).ID ≠ (l.getD i z_Brake).ID := by
  have hz : ∀ i, errB l i = 0 ↔ BrOk (l.getD i z_Brake) ∧ ∀ j, j < i → (l.getD j z_Brake).ID ≠ (l.getD i z_Brake).ID := fun i => by
    have hd : dupB l i = false ↔ ∀ j, j < i → (l.getD j z_Brake).ID ≠ (l.getD i z_Brake).ID := by
      unfold dupB
      rw [Option.isSome_eq_false_iff, Option.isNone_iff_eq_none, fst_none]
      constructor <;> intro h j hj <;> simpa using h j hj
    unfold errB
    rw [← inB_iff, ← hd]
    cases inB (l.getD i z_Brake) <;> cases dupB l i <;> decide
  unfold rightB
  cases h1 : decide ((l.length : Int) > 8) with
  | true =>
    rw [decide_eq_true_eq] at h1
    rw [cond_true]
    exact ⟨fun h => absurd h (by decide), fun h => by omega⟩
  | false =>
    rw [decide_eq_false_iff_not] at h1
    rw [cond_false]
    cases hf : fst (fun i => errB l i != 0) l.length with
    | some i =>
      obtain ⟨a, b, _⟩ := fst_some.1 hf
      have h4 : errB l i ≠ 0 := by simpa using b
      exact ⟨fun h => absurd h h4, fun h => absurd ((hz i).2 (h.2 i a)) h4⟩
    | none =>
      exact ⟨fun _ => ⟨by omega, fun i hi => (hz i).1 (by simpa using fst_none.1 hf i hi)⟩, fun _ => rfl⟩
theorem btest_eq (l : List Brake) (hl : l.length ≤ 900) (id m t : Int) : brake_Test N l id m t = some (testB l id m t) := by
  unfold brake_Test testB
  rw [bfind_eq hN l hl]
  cases h : idxB l id with
  | none => rfl
  | some i =>
    have hi : i < l.length := (fst_some.1 h).1
    have h2 : decide ((i : Int) < 0) = false := by simp
    have hc : sl_Clone_Brake N l = some l := by
      unfold sl_Clone_Brake
      have : (0 + l.length) * 40 ≤ 140737488355328 := by omega
      simp only [this, decide_true, cond_true]
    simp only [oi, Option.bind_some, Int.toNat_natCast, h2, cond_false, bwithin_eq, dge, dlt hi, Bool.and_self, cond_true, hc, List.length_set, getD_set _ _ _ _ _ hi, if_true, List.set_set, cond_or]
    cases (!(decide (0 ≤ m) && decide (m ≤ 10000000)) || !(decide (0 ≤ t) && decide (t ≤ 20000000))) <;> cases decide (t < (l.getD i z_Brake).Tested) <;> rfl
omit hN in
theorem testB_ok {l : List Brake} (h : rightB l = 0) {id m t : Int} (hz : (testB l id m t).2 = 0) : rightB (testB l id m t).1 = 0 := by
  unfold testB at *
  rw [rightB_iff] at h
  cases hi : idxB l id with
  | none => rw [hi] at hz; cases hz
  | some i =>
    rw [hi] at hz
    simp only at hz ⊢
    have hil : i < l.length := (fst_some.1 hi).1
    cases c1 : (!(decide (0 ≤ m) && decide (m ≤ 10000000)) || !(decide (0 ≤ t) && decide (t ≤ 20000000))) with
    | true => rw [c1] at hz; cases hz
    | false =>
      cases c2 : decide (t < (l.getD i z_Brake).Tested) with
      | true => rw [c1, c2] at hz; cases hz
      | false =>
        simp only [cond_false]
        simp only [Bool.or_eq_false_iff, Bool.not_eq_false', Bool.and_eq_true, decide_eq_true_eq] at c1
        rw [rightB_iff, List.length_set]
        have hg : ∀ j, ((l.set i ⟨(l.getD i z_Brake).ID, (l.getD i z_Brake).Kind, (l.getD i z_Brake).Force, t, m⟩).getD j z_Brake).ID = (l.getD j z_Brake).ID := fun j => by
          rw [getD_set _ _ _ _ _ hil]
          split
          · next e => subst e; rfl
          · rfl
        refine ⟨h.1, fun j hj => ⟨?_, fun k hk => by rw [hg, hg]; exact (h.2 j hj).2 k hk⟩⟩
        rw [getD_set _ _ _ _ _ hil]
        split
        · next e =>
          have q := (h.2 i hil).1
          exact ⟨q.id, q.kind, q.force, ⟨by simp only; omega, by simp only; omega⟩, c1.1, fun h0 => by simp only at h0; omega⟩
        · exact (h.2 j hj).1
omit hN in
theorem nine_eq {n : Int} (h1 : 1 ≤ n) (h2 : n ≤ 10000000) : brake_nineTenths N n = some (nineB n) := by
  unfold brake_nineTenths nineB
  have e1 : n.tmod 10 = n % 10 := Int.tmod_eq_emod_of_nonneg (by omega)
  have e2 : n.tdiv 10 = n / 10 := Int.tdiv_eq_ediv_of_nonneg (by omega)
  have c : decide (n % 10 < 0) = false := by rw [decide_eq_false_iff_not]; omega
  rw [e1, e2, c, cond_false, Option.bind_some, wrap64 (z := n / 10) (by omega) (by omega)]
  simp only
  rw [wrap64 (z := 9 * (n / 10)) (by omega) (by omega), wrap64 (z := 9 * (n % 10)) (by omega) (by omega), wrap64 (z := 9 * (n % 10) + 9) (by omega) (by omega), Int.tdiv_eq_ediv_of_nonneg (by omega), wrap64 (z := (9 * (n % 10) + 9) / 10) (by omega) (by omega), wrap64 (by omega) (by omega)]
omit hN in
theorem bvalid_eq {b : Brake} (h : BrOk b) {t : Int} (h1 : 0 ≤ t) (h2 : t ≤ 20000000) : brake_Valid N b t = some (validB t b) := by
  have a := h.tested
  unfold brake_Valid validB
  rw [nine_eq h.force.1 h.force.2, wrap64 (by omega) (by omega)]
  cases decide (b.Tested ≥ 0) <;> cases decide (t ≥ b.Tested) <;> cases decide (t - b.Tested < 604800) <;> rfl
def frB (k t : Int) (b : Brake) : Int := bif b.Kind == k && validB t b then b.Measured else 0
omit hN in
theorem force_bound {l : List Brake} (h : rightB l = 0) (k t : Int) (i : Nat) (hi : i ≤ l.length) : 0 ≤ ((l.take i).map (frB k t)).sum ∧ ((l.take i).map (frB k t)).sum ≤ 10000000 * i := by
  rw [rightB_iff] at h
  induction i with
  | zero => simp
  | succ i ih =>
    have a := ih (by omega)
    have q := (h.2 i (by omega)).1.meas
    rw [take_getD l i z_Brake (by omega), List.map_append, List.sum_append]
    simp only [List.map_cons, List.map_nil, List.sum_cons, List.sum_nil, Int.add_zero]
    unfold frB
    cases ((l.getD i z_Brake).Kind == k && validB t (l.getD i z_Brake)) with
    | true => simp only [cond_true]; unfold frB at a; omega
    | false => simp only [cond_false]; unfold frB at a; omega
theorem force_eq {l : List Brake} (h : rightB l = 0) (k : Int) {t : Int} (h1 : 0 ≤ t) (h2 : t ≤ 20000000) : brake_Force N l k t = some (forceB l k t) := by
  have h' := (rightB_iff l).1 h
  have hl := h'.1
  unfold brake_Force
  refine (bindT (fun i => (((l.take i).map (frB k t)).sum, (i : Int))) rfl (forceB l k t) l.length (show l.length < N by omega) (fun i hi => ?_) ?_).trans rfl
  · have b := force_bound h k t (i + 1) (by omega)
    have b0 := force_bound h k t i (by omega)
    have e : ((l.take (i + 1)).map (frB k t)).sum = ((l.take i).map (frB k t)).sum + frB k t (l.getD i z_Brake) := by
      rw [take_getD l i z_Brake hi, List.map_append, List.sum_append]
      simp
    simp only [dlt hi, dge, Bool.and_self, cond_true, Int.toNat_natCast, bvalid_eq (N := N) (h'.2 i hi).1 h1 h2, Option.bind_some, cond_and, wrapC (show i < 9223372036854775807 by omega)]
    rw [e] at b ⊢
    unfold frB at b ⊢
    cases hc : ((l.getD i z_Brake).Kind == k && validB t (l.getD i z_Brake)) with
    | true =>
      rw [hc, cond_true] at b
      simp only [cond_true, Option.bind_some]
      rw [wrap64 (by omega) (by omega)]
    | false => simp only [cond_false, Option.bind_some, Int.add_zero]
  · simp only [dnlt, cond_false, List.take_length]
    rfl
theorem enough_eq {l : List Brake} (h : rightB l = 0) (load : Int) {t : Int} (h1 : 0 ≤ t) (h2 : t ≤ 20000000) : brake_Enough N l load t = some (enoughB l load t) := by
  unfold brake_Enough enoughB
  simp only [force_eq hN h _ h1 h2, Option.bind_some]
  cases decide (forceB l 0 t ≥ load) <;> rfl
end
/-! the alarm -/
section
variable {N : Nat}
theorem wwithin_eq (x a b : Int) : weather_within N x a b = some (decide (a ≤ x) && decide (x ≤ b)) := by
  unfold weather_within
  simp only [cond_and, Option.bind_some]
theorem update_eq (a : Alarm) (v t : Int) : weather_Update N a v t = some (updA a v t) := by
  unfold weather_Update updA
  have e : (bif decide (a.Off < 0) then some true else bif decide (a.On < a.Off) then some true else (weather_within N a.Hold 0 86400).bind fun r3 => bif !r3 then some true else bif decide (v < 0) then some true else (weather_within N t 0 20000000).bind fun r4 => bif !r4 then some true else some (decide (a.Low > t))) = some (badA a v t) := by
    simp only [wwithin_eq, Option.bind_some, cond_or]
    rfl
  rw [e, Option.bind_some]
  cases hb : badA a v t with
  | true => rfl
  | false =>
    unfold badA at hb
    simp only [Bool.or_eq_false_iff, Bool.not_eq_false', Bool.and_eq_true, decide_eq_true_eq, decide_eq_false_iff_not] at hb
    simp only [cond_false]
    cases decide (v ≥ a.On) with
    | true => rfl
    | false =>
      cases decide (v ≥ a.Off) with
      | true => rfl
      | false =>
        unfold lowA
        cases hl : decide (a.Low < 0) with
        | true =>
          simp only [cond_true, cond_false, Option.bind_some]
          rw [wrap64 (by omega) (by omega)]
          cases decide (t - t ≥ a.Hold) <;> rfl
        | false =>
          rw [decide_eq_false_iff_not] at hl
          simp only [cond_false, Option.bind_some]
          rw [wrap64 (by omega) (by omega)]
          cases decide (t - a.Low ≥ a.Hold) <;> rfl
theorem updA_ok {a : Alarm} {v t t' : Int} (h : badA a 0 t = false) (ht : t ≤ t') (ht' : t' ≤ 20000000) (hz : (updA a v t').2 = 0) : badA (updA a v t').1 0 t' = false := by
  unfold updA at *
  cases hb : badA a v t' with
  | true => rw [hb] at hz; cases hz
  | false =>
    unfold badA at hb h ⊢
    simp only [Bool.or_eq_false_iff, Bool.not_eq_false', Bool.and_eq_true, decide_eq_true_eq, decide_eq_false_iff_not] at hb h ⊢
    simp only [cond_false]
    cases decide (v ≥ a.On) with
    | true => simp only [cond_true]; omega
    | false =>
      cases decide (v ≥ a.Off) with
      | true => simp only [cond_true, cond_false]; omega
      | false =>
        simp only [cond_false]
        unfold lowA
        cases hl : decide (a.Low < 0) with
        | true => simp only [cond_true]; omega
        | false => simp only [cond_false]; omega
theorem badA_later {a : Alarm} {t t' : Int} (h : badA a 0 t = false) (ht : t ≤ t') (ht' : t' ≤ 20000000) : badA a 0 t' = false := by
  unfold badA at *
  simp only [Bool.or_eq_false_iff, Bool.not_eq_false', Bool.and_eq_true, decide_eq_true_eq, decide_eq_false_iff_not] at *
  omega
end
end Go.Proofs.YthjmbcnohgaihaaGreat

/- The lift: the checklist. No condition. -/
namespace Go.Proofs.YthjmbcnohgaihaaGreat
open Go.Cm Go.Proofs
theorem hasI_fst (l : List Int) (x : Int) : hasI l x = (fst (fun i => x == l.getD i 0) l.length).isSome := by
  cases h : fst (fun i => x == l.getD i 0) l.length with
  | some i =>
    obtain ⟨a, b, _⟩ := fst_some.1 h
    unfold hasI
    rw [List.any_eq_true.2 ⟨x, ?_, by simp⟩]
    · rfl
    · have b' : x = l.getD i 0 := by simpa using b
      rw [b']
      exact getD_mem l i 0 a
  | none =>
    unfold hasI
    rw [List.any_eq_false.2 fun y hy => ?_]
    · rfl
    · obtain ⟨i, hi, rfl⟩ := mem_getD 0 hy
      have := fst_none.1 h i hi
      simp only [beq_eq_false_iff_ne, ne_eq] at this
      simp only [beq_iff_eq]
      exact fun e => this e.symm
structure CkOk (c : Checklist) : Prop where
  items : c.Items.length ≤ 64
  signs : c.Signs.length ≤ 200
  every : 1 ≤ c.Every ∧ c.Every ≤ 604800
  at' : ∀ i, i < c.Signs.length → 0 ≤ (c.Signs.getD i z_Sign).At ∧ (c.Signs.getD i z_Sign).At ≤ 20000000
theorem ck_ok {c : Checklist} (h : rightC c = 0) : CkOk c := by
  unfold rightC at h
  cases h1 : (decide ((c.Items.length : Int) > 64) || decide ((c.Signs.length : Int) > 200)) with
  | true => rw [h1] at h; cases h
  | false =>
    cases h2 : (decide (c.Every < 1) || decide (c.Every > 604800)) with
    | true => rw [h1, h2] at h; cases h
    | false =>
      rw [h1, h2, cond_false, cond_false] at h
      simp only [Bool.or_eq_false_iff, decide_eq_false_iff_not] at h1 h2
      refine ⟨by omega, by omega, by omega, fun i hi => ?_⟩
      cases hf : fst (fun i => errI c.Items i != 0) c.Items.length with
      | some j =>
        rw [hf] at h
        have := (fst_some.1 hf).2.1
        simp only [bne_iff_ne] at this
        exact absurd h this
      | none =>
        rw [hf] at h
        simp only at h
        cases hg : fst (fun i => errG c.Items c.Signs i != 0) c.Signs.length with
        | some j =>
          rw [hg] at h
          have := (fst_some.1 hg).2.1
          simp only [bne_iff_ne] at this
          exact absurd h this
        | none =>
          have := fst_none.1 hg i hi
          rw [bne_eq_false_iff_eq] at this
          unfold errG at this
          cases a1 : (!hasI c.Items (c.Signs.getD i z_Sign).Item) with
          | true => rw [a1] at this; cases this
          | false =>
            cases a2 : (decide ((c.Signs.getD i z_Sign).By < 1) || decide ((c.Signs.getD i z_Sign).By > 9999)) with
            | true => rw [a1, a2] at this; cases this
            | false =>
              cases a3 : (decide ((c.Signs.getD i z_Sign).At < 0) || decide ((c.Signs.getD i z_Sign).At > 20000000)) with
              | true => rw [a1, a2, a3] at this; cases this
              | false =>
                simp only [Bool.or_eq_false_iff, decide_eq_false_iff_not] at a3
                omega
section
variable {N : Nat} (hN : 1000 < N)
include hN
theorem contains_eq (l : List Int) (hl : l.length ≤ 900) (x : Int) : sl_Contains_int N l x = some (hasI l x) := by
  unfold sl_Contains_int sl_Index_int
  rw [search (fun i => x == l.getD i 0) (fun i => (i : Int)) () l.length (by omega) (fun i hi => ?_) (by simp), hasI_fst]
  · cases fst (fun i => x == l.getD i 0) l.length with
    | none => rfl
    | some i =>
      have : decide ((i : Int) ≥ 0) = true := by simp
      simp only [sres, Option.bind_some, Sum.elim_inr, this, Option.isSome_some]
  · simp only [dlt hi, dge, Bool.and_self, cond_true, Int.toNat_natCast, wrapN (show i < 9223372036854775807 by omega)]
theorem iright_eq (c : Checklist) : inspect_Right N c = some (rightC c) := by
  unfold inspect_Right rightC
  simp only [cond_or, Option.bind_some]
  cases h1 : (decide ((c.Items.length : Int) > 64) || decide ((c.Signs.length : Int) > 200)) with
  | true => rfl
  | false =>
    simp only [Bool.or_eq_false_iff, decide_eq_false_iff_not] at h1
    simp only [cond_false]
    cases h2 : (decide (c.Every < 1) || decide (c.Every > 604800)) with
    | true => rfl
    | false =>
      simp only [cond_false]
      rw [search (fun i => errI c.Items i != 0) (fun i => errI c.Items i) () c.Items.length (by omega) (fun i hi => ?_) (by simp)]
      · cases fst (fun i => errI c.Items i != 0) c.Items.length with
        | some i => rfl
        | none =>
          simp only [sres, Option.bind_some, Sum.elim_inl]
          rw [search (fun i => errG c.Items c.Signs i != 0) (fun i => errG c.Items c.Signs i) () c.Signs.length (by omega) (fun i hi => ?_) (by simp)]
          · cases fst (fun i => errG c.Items c.Signs i != 0) c.Signs.length <;> rfl
          · have e4 : (bif decide ((i : Int) > 0) then bif decide ((0 : Int) ≤ IntKind.i64.wrap ((i : Int) - 1)) && decide (IntKind.i64.wrap ((i : Int) - 1) < (c.Signs.length : Int)) then some (decide ((c.Signs.getD i z_Sign).At < (c.Signs.getD (IntKind.i64.wrap ((i : Int) - 1)).toNat z_Sign).At)) else none else some false) = some (decide (0 < i) && decide ((c.Signs.getD i z_Sign).At < (c.Signs.getD (i - 1) z_Sign).At)) := by
              cases i with
              | zero => rfl
              | succ i =>
                have c1 : decide (((i + 1 : Nat) : Int) > 0) = true := by simp only [decide_eq_true_eq]; omega
                have c2 : decide (0 < i + 1) = true := by simp
                rw [c1, c2, wrapS (show i < 9223372036854775807 by omega)]
                simp only [dge, dlt (show i < c.Signs.length by omega), Bool.and_self, cond_true, Int.toNat_natCast, Nat.add_sub_cancel, Bool.true_and]
            simp only [dlt hi, dge, Bool.and_self, cond_true, Int.toNat_natCast, contains_eq hN c.Items (by omega), Option.bind_some, e4, wrapN (show i < 9223372036854775807 by omega)]
            unfold errG
            cases hasI c.Items (c.Signs.getD i z_Sign).Item <;> try rfl
            cases (decide ((c.Signs.getD i z_Sign).By < 1) || decide ((c.Signs.getD i z_Sign).By > 9999)) <;> try rfl
            cases (decide ((c.Signs.getD i z_Sign).At < 0) || decide ((c.Signs.getD i z_Sign).At > 20000000)) <;> try rfl
            cases (decide (0 < i) && decide ((c.Signs.getD i z_Sign).At < (c.Signs.getD (i - 1) z_Sign).At)) <;> rfl
      · simp only [dlt hi, dge, dle (Nat.le_of_lt hi), Bool.and_self, cond_true, Int.toNat_natCast, contains_eq hN (c.Items.take i) (by simp; omega), Option.bind_some, wrapN (show i < 9223372036854775807 by omega)]
        unfold errI
        cases (decide (c.Items.getD i 0 < 1) || decide (c.Items.getD i 0 > 9999)) <;> try rfl
        cases hasI (c.Items.take i) (c.Items.getD i 0) <;> rfl
theorem sign_eq {c : Checklist} (h : CkOk c) (it b t : Int) : inspect_Sign N c it b t = some (signC c it b t) := by
  have h1 := h.items
  have h2 := h.signs
  have fl : ∀ i, ((c.Signs.take i).filter fun g => g.Item != it).length ≤ 200 := fun i => by
    have a : ((c.Signs.take i).filter fun g => g.Item != it).length ≤ (c.Signs.take i).length := List.length_filter_le _ _
    simp only [List.length_take] at a
    omega
  unfold inspect_Sign
  rw [cloneI_eq c.Items (by omega), Option.bind_some]
  refine (bindT (fun i => ((i : Int), Checklist.mk c.Items c.Every ((c.Signs.take i).filter fun g => g.Item != it))) rfl (Checklist.mk c.Items c.Every (c.Signs.filter fun g => g.Item != it)) c.Signs.length (show c.Signs.length < N by omega) (fun i hi => ?_) ?_).trans ?_
  · have f := fl i
    have hb : ∀ g : Sign, decide ((((c.Signs.take i).filter fun g => g.Item != it).length + [g].length) * 24 ≤ 140737488355328) = true := fun g => by simp only [List.length_singleton, decide_eq_true_eq]; omega
    simp only [dlt hi, dge, Bool.and_self, cond_true, Int.toNat_natCast, Option.bind_some, hb, wrapC (show i < 9223372036854775807 by omega), take_getD c.Signs i z_Sign hi, List.filter_append]
    cases hc : ((c.Signs.getD i z_Sign).Item != it) with
    | true => simp only [cond_true, Option.bind_some, List.filter_cons, hc, if_true, List.filter_nil]
    | false => simp only [cond_false, Option.bind_some, List.filter_cons, hc, List.filter_nil, Bool.false_eq_true, if_false, List.append_nil]
  · simp only [dnlt, cond_false, List.take_length]
  · have f := fl c.Signs.length
    rw [List.take_length] at f
    have hb : decide (((c.Signs.filter fun g => g.Item != it).length + [Sign.mk it b t].length) * 24 ≤ 140737488355328) = true := by simp only [List.length_singleton, decide_eq_true_eq]; omega
    simp only [Option.bind_some, hb, cond_true, iright_eq hN]
    unfold signC signC0
    cases (rightC (Checklist.mk c.Items c.Every ((c.Signs.filter fun g => g.Item != it) ++ [Sign.mk it b t])) != 0) <;> rfl
theorem open_eq {c : Checklist} (h : CkOk c) (t : Int) : inspect_Open N c t = some (openC c t) := by
  have h1 := h.items
  have h2 := h.signs
  have he := h.every
  have hany : ∀ it, c.Signs.any (countC c t it) = (fst (fun i => countC c t it (c.Signs.getD i z_Sign)) c.Signs.length).isSome := fun it => by
    cases hf : fst (fun i => countC c t it (c.Signs.getD i z_Sign)) c.Signs.length with
    | some i =>
      obtain ⟨a, b, _⟩ := fst_some.1 hf
      rw [List.any_eq_true.2 ⟨_, getD_mem c.Signs i z_Sign a, b⟩]
      rfl
    | none =>
      rw [List.any_eq_false.2 fun y hy => ?_]
      · rfl
      · obtain ⟨i, hi, rfl⟩ := mem_getD z_Sign hy
        have := fst_none.1 hf i hi
        rw [this]
        decide
  have fl : ∀ i, ((c.Items.take i).filter fun it => !c.Signs.any (countC c t it)).length ≤ 64 := fun i => by
    have a : ((c.Items.take i).filter fun it => !c.Signs.any (countC c t it)).length ≤ (c.Items.take i).length := List.length_filter_le _ _
    simp only [List.length_take] at a
    omega
  unfold inspect_Open
  refine (bindT (fun i => (((c.Items.take i).filter fun it => !c.Signs.any (countC c t it)), (i : Int))) rfl (openC c t) c.Items.length (show c.Items.length < N by omega) (fun i hi => ?_) ?_).trans rfl
  · have f := fl i
    have hb : ∀ g : Int, decide ((((c.Items.take i).filter fun it => !c.Signs.any (countC c t it)).length + [g].length) * 8 ≤ 140737488355328) = true := fun g => by simp only [List.length_singleton, decide_eq_true_eq]; omega
    simp only [dlt hi, dge, Bool.and_self, cond_true, Int.toNat_natCast]
    rw [search (fun j => countC c t (c.Items.getD i 0) (c.Signs.getD j z_Sign)) (fun j => (j : Int)) () c.Signs.length (by omega) (fun j hj => ?_) (by simp)]
    · simp only [Option.bind_some, hb, cond_true, wrapC (show i < 9223372036854775807 by omega), take_getD c.Items i 0 hi, List.filter_append, List.filter_cons, List.filter_nil, hany (c.Items.getD i 0)]
      cases fst (fun j => countC c t (c.Items.getD i 0) (c.Signs.getD j z_Sign)) c.Signs.length with
      | none => simp only [sres, Sum.elim_inl, hb, cond_true, Option.bind_some, Option.isSome_none, Bool.not_false, if_true]
      | some j =>
        have : decide ((j : Int) ≥ 0) = true := by simp
        simp only [sres, Sum.elim_inr, this, Bool.not_true, cond_false, Option.bind_some, Option.isSome_some, Bool.false_eq_true, if_false, List.append_nil]
    · have q := h.at' j hj
      simp only [dlt hj, dge, Bool.and_self, cond_true, Int.toNat_natCast, wrap64 (z := (c.Signs.getD j z_Sign).At + c.Every) (by omega) (by omega), wrapN (show j < 9223372036854775807 by omega)]
      unfold countC
      cases ((c.Signs.getD j z_Sign).Item == c.Items.getD i 0) <;> cases decide ((c.Signs.getD j z_Sign).At ≤ t) <;> rfl
  · simp only [dnlt, cond_false, List.take_length]
    rfl
theorem done_eq {c : Checklist} (h : CkOk c) (t : Int) : inspect_Done N c t = some (doneC c t) := by
  unfold inspect_Done doneC
  rw [open_eq hN h]
  rfl
end
theorem signC_ok {c : Checklist} {it b t : Int} (hz : (signC c it b t).2 = 0) : rightC (signC c it b t).1 = 0 := by
  unfold signC at *
  cases h : (rightC (signC0 c it b t) != 0) with
  | true =>
    rw [h, cond_true] at hz
    rw [bne_iff_ne] at h
    exact absurd hz h
  | false => simpa using h
end Go.Proofs.YthjmbcnohgaihaaGreat

