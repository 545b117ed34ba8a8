/- The abstract machine, third state, part 26: rules for plain loops. No condition. -/
import Derived.Test.YtibcoiabdnbdjaaDoorCmo
namespace Go.Cm
set_option linter.unusedSectionVars false

theorem whileF_inv {σ ρ : Type} {body : σ → Option (σ ⊕ ρ)} {s0 : σ} (I : Nat → σ → Prop) (Q : ρ → Prop) (n : Nat) (h0 : I 0 s0)
    (hs : ∀ i s, i < n → I i s → (∃ s', body s = some (.inl s') ∧ I (i + 1) s') ∨ ∃ r, body s = some (.inr r) ∧ Q r)
    (he : ∀ s, I n s → ∃ r, body s = some (.inr r) ∧ Q r) {N : Nat} (hN : n < N) : ∃ r, whileF N body s0 = some r ∧ Q r := by
  suffices h : ∀ (k i : Nat) (N : Nat) (s : σ), n - i = k → i ≤ n → k < N → I i s → ∃ r, whileF N body s = some r ∧ Q r from h n 0 N s0 rfl (Nat.zero_le _) hN h0
  intro k
  induction k with
  | zero =>
    intro i N s hk hi hN hI
    have : i = n := by omega
    subst this
    obtain ⟨r, h1, h2⟩ := he s hI
    obtain ⟨N, rfl⟩ : ∃ M, N = M + 1 := ⟨N - 1, by omega⟩
    exact ⟨r, by rw [whileF_succ, h1]; rfl, h2⟩
  | succ k ih =>
    intro i N s hk hi hN hI
    obtain ⟨N, rfl⟩ : ∃ M, N = M + 1 := ⟨N - 1, by omega⟩
    rcases hs i s (by omega) hI with ⟨s', h1, h2⟩ | ⟨r, h1, h2⟩
    · obtain ⟨r, h3, h4⟩ := ih (i + 1) N s' (by omega) (by omega) (by omega) h2
      exact ⟨r, by rw [whileF_succ, h1]; exact h3, h4⟩
    · exact ⟨r, by rw [whileF_succ, h1]; rfl, h2⟩
/-- a loop whose result is known -/
theorem whileF_eq {σ ρ : Type} {body : σ → Option (σ ⊕ ρ)} {s0 : σ} {r0 : ρ} (I : Nat → σ → Prop) (n : Nat) (h0 : I 0 s0)
    (hs : ∀ i s, i < n → I i s → (∃ s', body s = some (.inl s') ∧ I (i + 1) s') ∨ body s = some (.inr r0))
    (he : ∀ s, I n s → body s = some (.inr r0)) {N : Nat} (hN : n < N) : whileF N body s0 = some r0 := by
  obtain ⟨r, h1, h2⟩ := whileF_inv I (fun r => r = r0) n h0 (fun i s hi h => (hs i s hi h).elim .inl fun h => .inr ⟨r0, h, rfl⟩) (fun s h => ⟨r0, he s h, rfl⟩) hN
  rw [h1, h2]

theorem bind_while {σ ρ γ : Type} {body : σ → Option (σ ⊕ ρ)} {s0 : σ} {N : Nat} {r0 : ρ} {f : ρ → Option γ} (h : whileF N body s0 = some r0) : (whileF N body s0).bind f = f r0 := by rw [h]; rfl
/-- a loop, and what follows -/
theorem bind_inv {σ ρ γ : Type} {body : σ → Option (σ ⊕ ρ)} {s0 : σ} {f : ρ → Option γ} {x : Option γ} {N : Nat} (I : Nat → σ → Prop) (Q : ρ → Prop) (n : Nat) (h0 : I 0 s0)
    (hs : ∀ i s, i < n → I i s → (∃ s', body s = some (.inl s') ∧ I (i + 1) s') ∨ ∃ r, body s = some (.inr r) ∧ Q r)
    (he : ∀ s, I n s → ∃ r, body s = some (.inr r) ∧ Q r) (hN : n < N) (hf : ∀ r, Q r → f r = x) : (whileF N body s0).bind f = x := by
  obtain ⟨r, h1, h2⟩ := whileF_inv I Q n h0 hs he hN
  rw [h1]
  exact hf r h2
theorem cond_and (a b : Bool) : (bif a then some b else some false) = some (a && b) := by cases a <;> rfl
theorem cond_or (a b : Bool) : (bif a then some true else some b) = some (a || b) := by cases a <;> rfl
theorem cond_some {α : Type} (a : Bool) (x y : α) : (bif a then some x else some y) = some (bif a then x else y) := by cases a <;> rfl
theorem wrap64 {z : Int} (h1 : -9223372036854775808 ≤ z) (h2 : z ≤ 9223372036854775807) : IntKind.i64.wrap z = z := by
  show (let m := z % (2 ^ 64 : Int); if true && m ≥ (2 ^ 63 : Int) then m - (2 ^ 64 : Int) else m) = z
  simp only [Bool.true_and, decide_eq_true_eq]
  split <;> omega
theorem wrapN {i : Nat} (h : i < 9223372036854775807) : IntKind.i64.wrap ((i : Int) + 1) = (i : Int) + 1 := wrap64 (by omega) (by omega)

/-- the least number below n with a property -/
def fst (p : Nat → Bool) (n : Nat) : Option Nat := (List.range n).find? p
theorem fst_none {p : Nat → Bool} {n : Nat} : fst p n = none ↔ ∀ i, i < n → p i = false := by
  simp [fst, List.find?_eq_none]
theorem fst_some {p : Nat → Bool} {n i : Nat} : fst p n = some i ↔ i < n ∧ p i = true ∧ ∀ j, j < i → p j = false := by
  simp only [fst, List.find?_range_eq_some, Bool.not_eq_true']
  constructor
  · rintro ⟨a, b, c⟩
    exact ⟨by simpa using b, a, c⟩
  · rintro ⟨a, b, c⟩
    exact ⟨b, by simpa using a, c⟩
theorem fst_congr {p q : Nat → Bool} {n : Nat} (h : ∀ i, i < n → p i = q i) : fst p n = fst q n := by
  cases h1 : fst q n with
  | none => rw [fst_none] at h1 ⊢; intro i hi; rw [h i hi, h1 i hi]
  | some i =>
    rw [fst_some] at h1 ⊢
    exact ⟨h1.1, by rw [h i h1.1]; exact h1.2.1, fun j hj => by rw [h j (by omega)]; exact h1.2.2 j hj⟩
def oi : Option Nat → Int
  | some i => i
  | none => -1
def sres {ρ1 ρ2 : Type} (f : Nat → ρ2) (u : ρ1) : Option Nat → ρ1 ⊕ ρ2
  | some i => .inr (f i)
  | none => .inl u
/-- a loop that looks for an index -/
theorem search {ρ1 ρ2 : Type} {body : Int → Option (Int ⊕ (ρ1 ⊕ ρ2))} (p : Nat → Bool) (f : Nat → ρ2) (u : ρ1) (n : Nat) {N : Nat} (hN : n < N)
    (hb : ∀ i : Nat, i < n → body i = bif p i then some (.inr (.inr (f i))) else some (.inl ((i : Int) + 1))) (he : body n = some (.inr (.inl u))) :
    whileF N body 0 = some (sres f u (fst p n)) := by
  refine whileF_eq (fun i s => s = (i : Int) ∧ ∀ j, j < i → p j = false) n ⟨rfl, fun j h => by omega⟩ (fun i s hi hI => ?_) (fun s hI => ?_) hN
  · obtain ⟨rfl, hI⟩ := hI
    rw [hb i hi]
    cases hp : p i with
    | false => exact .inl ⟨_, rfl, by simp, fun j hj => by rcases Nat.lt_succ_iff_lt_or_eq.1 hj with h | rfl; exact hI j h; exact hp⟩
    | true =>
      right
      rw [fst_some.2 ⟨hi, hp, hI⟩]
      rfl
  · obtain ⟨rfl, hI⟩ := hI
    rw [he, fst_none.2 hI]
    rfl
/-- a loop that looks at all -/
theorem through {ρ1 ρ2 : Type} {body : Int → Option (Int ⊕ (ρ1 ⊕ ρ2))} (u : ρ1) (n : Nat) {N : Nat} (hN : n < N)
    (hb : ∀ i : Nat, i < n → body i = some (.inl ((i : Int) + 1))) (he : body n = some (.inr (.inl u))) : whileF N body 0 = some (.inl u) := by
  refine whileF_eq (fun i s => s = (i : Int)) n rfl (fun i s hi hI => ?_) (fun s hI => ?_) hN
  · subst hI
    exact .inl ⟨_, hb i hi, by simp⟩
  · subst hI
    exact he
/-- a loop whose state follows from the index, and that looks for an index -/
theorem searchG {σ ρ1 ρ2 : Type} {body : σ → Option (σ ⊕ (ρ1 ⊕ ρ2))} (st : Nat → σ) (p : Nat → Bool) (f : Nat → ρ2) (u : ρ1) (n : Nat) {N : Nat} (hN : n < N)
    (hb : ∀ i : Nat, i < n → (∀ j, j < i → p j = false) → body (st i) = bif p i then some (.inr (.inr (f i))) else some (.inl (st (i + 1)))) (he : (∀ j, j < n → p j = false) → body (st n) = some (.inr (.inl u))) :
    whileF N body (st 0) = some (sres f u (fst p n)) := by
  refine whileF_eq (fun i s => s = st i ∧ ∀ j, j < i → p j = false) n ⟨rfl, fun j h => by omega⟩ (fun i s hi hI => ?_) (fun s hI => ?_) hN
  · obtain ⟨rfl, hI⟩ := hI
    rw [hb i hi hI]
    cases hp : p i with
    | false => exact .inl ⟨_, rfl, rfl, fun j hj => by rcases Nat.lt_succ_iff_lt_or_eq.1 hj with h | rfl; exact hI j h; exact hp⟩
    | true =>
      right
      rw [fst_some.2 ⟨hi, hp, hI⟩]
      rfl
  · obtain ⟨rfl, hI⟩ := hI
    rw [he hI, fst_none.2 hI]
    rfl
/-- a loop whose state follows from the index -/
theorem throughG {σ ρ : Type} {body : σ → Option (σ ⊕ ρ)} (st : Nat → σ) (r : ρ) (n : Nat) {N : Nat} (hN : n < N)
    (hb : ∀ i : Nat, i < n → body (st i) = some (.inl (st (i + 1)))) (he : body (st n) = some (.inr r)) : whileF N body (st 0) = some r := by
  refine whileF_eq (fun i s => s = st i) n rfl (fun i s hi hI => ?_) (fun s hI => ?_) hN
  · subst hI
    exact .inl ⟨_, hb i hi, rfl⟩
  · subst hI
    exact he
theorem bindG {σ ρ γ : Type} {body : σ → Option (σ ⊕ ρ)} {s0 : σ} {N : Nat} {f : ρ → Option γ} {r : ρ} (st : Nat → σ) (hs : s0 = st 0) (h : whileF N body (st 0) = some r) : (whileF N body s0).bind f = f r := by rw [hs, h]; rfl
theorem bindS {σ ρ1 ρ2 γ : Type} {body : σ → Option (σ ⊕ (ρ1 ⊕ ρ2))} {s0 : σ} {N : Nat} {g : ρ1 ⊕ ρ2 → Option γ} (st : Nat → σ) (hs : s0 = st 0) (p : Nat → Bool) (f : Nat → ρ2) (u : ρ1) (n : Nat) (hN : n < N)
    (hb : ∀ i : Nat, i < n → (∀ j, j < i → p j = false) → body (st i) = bif p i then some (.inr (.inr (f i))) else some (.inl (st (i + 1)))) (he : (∀ j, j < n → p j = false) → body (st n) = some (.inr (.inl u))) :
    (whileF N body s0).bind g = g (sres f u (fst p n)) := bindG st hs (searchG st p f u n hN hb he)
theorem bindT {σ ρ γ : Type} {body : σ → Option (σ ⊕ ρ)} {s0 : σ} {N : Nat} {g : ρ → Option γ} (st : Nat → σ) (hs : s0 = st 0) (r : ρ) (n : Nat) (hN : n < N)
    (hb : ∀ i : Nat, i < n → body (st i) = some (.inl (st (i + 1)))) (he : body (st n) = some (.inr r)) : (whileF N body s0).bind g = g r := bindG st hs (throughG st r n hN hb he)
theorem fst_succ (p : Nat → Bool) (n : Nat) : (fst p (n + 1)).isSome = ((fst p n).isSome || p n) := by
  cases h : fst p n with
  | none =>
    cases hp : p n with
    | false =>
      have : fst p (n + 1) = none := fst_none.2 fun i hi => by rcases Nat.lt_succ_iff_lt_or_eq.1 hi with h1 | rfl; exact fst_none.1 h i h1; exact hp
      rw [this]; rfl
    | true => rw [fst_some.2 ⟨Nat.lt_succ_self n, hp, fst_none.1 h⟩]; rfl
  | some i =>
    obtain ⟨a, b, c⟩ := fst_some.1 h
    rw [fst_some.2 ⟨by omega, b, c⟩]; rfl
theorem fst_one (p : Nat → Bool) : fst p 1 = bif p 0 then some 0 else none := by cases h : p 0 <;> simp [fst, List.range, List.range.loop, List.find?, h]
theorem fst_two (p : Nat → Bool) : (fst p 2).isNone = (!p 0 && !p 1) := by cases h : p 0 <;> cases h1 : p 1 <;> simp [fst, List.range, List.range.loop, List.find?, h, h1]
theorem fst_three (p : Nat → Bool) : (fst p 3).isNone = (!p 0 && (!p 1 && !p 2)) := by cases h : p 0 <;> cases h1 : p 1 <;> cases h2 : p 2 <;> simp [fst, List.range, List.range.loop, List.find?, h, h1, h2]
theorem cond_or2 {α : Type} (a b : Bool) (x y : α) : (bif a then x else bif b then x else y) = bif a || b then x else y := by cases a <;> rfl
theorem cond_and2 {α : Type} (a b : Bool) (x y : α) : (bif a then (bif b then x else y) else y) = bif a && b then x else y := by cases a <;> rfl
theorem wrapS {i : Nat} (h : i < 9223372036854775807) : IntKind.i64.wrap (((i + 1 : Nat) : Int) - 1) = (i : Int) := by rw [wrap64 (by omega) (by omega)]; omega
theorem wrapC {i : Nat} (h : i < 9223372036854775807) : IntKind.i64.wrap ((i : Int) + 1) = ((i + 1 : Nat) : Int) := by rw [wrapN h]; omega
theorem dlt {a b : Nat} (h : a < b) : decide ((a : Int) < (b : Int)) = true := by simp [h]
theorem dle {a b : Nat} (h : a ≤ b) : decide ((a : Int) ≤ (b : Int)) = true := by simp [h]
theorem dge (a : Nat) : decide ((0 : Int) ≤ (a : Int)) = true := by simp
theorem dnlt (a : Nat) : decide ((a : Int) < (a : Int)) = false := by simp
theorem take_getD {α : Type} (l : List α) (i : Nat) (d : α) (h : i < l.length) : l.take (i + 1) = l.take i ++ [l.getD i d] := by
  rw [List.take_add_one, List.getElem?_eq_getElem h]
  simp [List.getD, List.getElem?_eq_getElem h]
theorem getD_set {α : Type} (l : List α) (i j : Nat) (x d : α) (h : i < l.length) : (l.set i x).getD j d = if i = j then x else l.getD j d := by
  simp only [List.getD, List.getElem?_set, h, if_true]
  split <;> rfl
theorem getD_take {α : Type} (l : List α) (i j : Nat) (d : α) (h : j < i) : (l.take i).getD j d = l.getD j d := by
  simp [List.getD, List.getElem?_take, h]
theorem list_ext {α : Type} {a b : List α} (d : α) (h : a.length = b.length) (h2 : ∀ i, i < a.length → a.getD i d = b.getD i d) : a = b := by
  refine List.ext_getElem h fun i h3 h4 => ?_
  have := h2 i h3
  simpa [List.getD, List.getElem?_eq_getElem h3, List.getElem?_eq_getElem h4] using this
/-- the first i of one list, then another -/
def mixd {α : Type} (t l : List α) (i : Nat) : List α := t.take i ++ l.drop i
section
variable {α : Type} {t l : List α} (h : t.length = l.length)
theorem mixd_zero : mixd t l 0 = l := by simp [mixd]
include h in
theorem mixd_all : mixd t l l.length = t := by simp [mixd, ← h]
include h in
theorem mixd_len (i : Nat) : (mixd t l i).length = l.length := by simp [mixd]; omega
include h in
theorem mixd_getD {i : Nat} (hi : i < l.length) (d : α) : (mixd t l i).getD i d = l.getD i d := by
  have : (t.take i).length = i := by simp; omega
  simp [mixd, List.getD, List.getElem?_append, this]
include h in
theorem mixd_set {i : Nat} (hi : i < l.length) (x : α) (d : α) (hx : x = t.getD i d) : (mixd t l i).set i x = mixd t l (i + 1) := by
  refine list_ext d (by rw [List.length_set, mixd_len h, mixd_len h]) fun j hj => ?_
  rw [List.length_set, mixd_len h] at hj
  rw [getD_set _ _ _ _ _ (by rw [mixd_len h]; exact hi)]
  have h1 : (t.take i).length = i := by simp; omega
  have h2 : (t.take (i + 1)).length = i + 1 := by simp; omega
  simp only [mixd, List.getD, List.getElem?_append, h1, h2, List.getElem?_take, List.getElem?_drop]
  by_cases hij : i = j
  · subst hij
    simp [hx, List.getD]
  · rw [if_neg hij]
    by_cases h3 : j < i
    · simp [h3, show j < i + 1 by omega]
    · simp [h3, show ¬ j < i + 1 by omega, show i + (j - i) = j by omega, show i + 1 + (j - (i + 1)) = j by omega]
include h in
theorem mixd_same {i : Nat} (hi : i < l.length) (d : α) (hx : l.getD i d = t.getD i d) : mixd t l i = mixd t l (i + 1) := by
  rw [← mixd_set h hi (l.getD i d) d hx]
  refine list_ext d (by rw [List.length_set]) fun j hj => ?_
  rw [getD_set _ _ _ _ _ (by rw [mixd_len h]; exact hi)]
  by_cases hij : i = j
  · subst hij
    rw [if_pos rfl, mixd_getD h hi]
  · rw [if_neg hij]
end
theorem getD_map {α β : Type} (f : α → β) (l : List α) (i : Nat) (d : α) (e : β) (h : i < l.length) : (l.map f).getD i e = f (l.getD i d) := by
  simp [List.getD, List.getElem?_eq_getElem h]
theorem mem_getD {α : Type} {l : List α} {x : α} (d : α) (h : x ∈ l) : ∃ i, i < l.length ∧ l.getD i d = x := by
  obtain ⟨i, hi, rfl⟩ := List.mem_iff_getElem.1 h
  exact ⟨i, hi, by simp [List.getD, List.getElem?_eq_getElem hi]⟩
theorem getD_mem {α : Type} (l : List α) (i : Nat) (d : α) (h : i < l.length) : l.getD i d ∈ l := by
  simp [List.getD, List.getElem?_eq_getElem h]
end Go.Cm
