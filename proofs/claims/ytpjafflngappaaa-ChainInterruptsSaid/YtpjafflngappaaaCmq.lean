/- The abstract machine, third state, part 26: rules for plain loops. No condition. -/
import Derived.Test.YtpjafflngappaaaCmo
namespace Go.Cm
set_option linter.unusedSectionVars false

theorem whileF_inv {σ ρ : Type} {body : σ → Option (σ ⊕ ρ)} {s0 : σ} (I : Nat → σ → Prop) (Q : ρ → Prop) (n : Nat) (h0 : I 0 s0)
    (hs : ∀ i s, i < n → I i s → (∃ s', body s = some (.inl s') ∧ I (i + 1) s') ∨ ∃ r, body s = some (.inr r) ∧ Q r)
    (he : ∀ s, I n s → ∃ r, body s = some (.inr r) ∧ Q r) {N : Nat} (hN : n < N) : ∃ r, whileF N body s0 = some r ∧ Q r := by
  suffices h : ∀ (k i : Nat) (N : Nat) (s : σ), n - i = k → i ≤ n → k < N → I i s → ∃ r, whileF N body s = some r ∧ Q r from h n 0 N s0 rfl (Nat.zero_le _) hN h0
  intro k
  induction k with
  | zero =>
    intro i N s hk hi hN hI
    have : i = n := by omega
    subst this
    obtain ⟨r, h1, h2⟩ := he s hI
    obtain ⟨N, rfl⟩ : ∃ M, N = M + 1 := ⟨N - 1, by omega⟩
    exact ⟨r, by rw [whileF_succ, h1]; rfl, h2⟩
  | succ k ih =>
    intro i N s hk hi hN hI
    obtain ⟨N, rfl⟩ : ∃ M, N = M + 1 := ⟨N - 1, by omega⟩
    rcases hs i s (by omega) hI with ⟨s', h1, h2⟩ | ⟨r, h1, h2⟩
    · obtain ⟨r, h3, h4⟩ := ih (i + 1) N s' (by omega) (by omega) (by omega) h2
      exact ⟨r, by rw [whileF_succ, h1]; exact h3, h4⟩
    · exact ⟨r, by rw [whileF_succ, h1]; rfl, h2⟩
/-- a loop whose result is known -/
theorem whileF_eq {σ ρ : Type} {body : σ → Option (σ ⊕ ρ)} {s0 : σ} {r0 : ρ} (I : Nat → σ → Prop) (n : Nat) (h0 : I 0 s0)
    (hs : ∀ i s, i < n → I i s → (∃ s', body s = some (.inl s') ∧ I (i + 1) s') ∨ body s = some (.inr r0))
    (he : ∀ s, I n s → body s = some (.inr r0)) {N : Nat} (hN : n < N) : whileF N body s0 = some r0 := by
  obtain ⟨r, h1, h2⟩ := whileF_inv I (fun r => r = r0) n h0 (fun i s hi h => (hs i s hi h).elim .inl fun h => .inr ⟨r0, h, rfl⟩) (fun s h => ⟨r0, he s h, rfl⟩) hN
  rw [h1, h2]

theorem bind_while {σ ρ γ : Type} {body : σ → Option (σ ⊕ ρ)} {s0 : σ} {N : Nat} {r0 : ρ} {f : ρ → Option γ} (h : whileF N body s0 = some r0) : (whileF N body s0).bind f = f r0 := by rw [h]; rfl
/-- a loop, and what follows -/
theorem bind_inv {σ ρ γ : Type} {body : σ → Option (σ ⊕ ρ)} {s0 : σ} {f : ρ → Option γ} {x : Option γ} {N : Nat} (I : Nat → σ → Prop) (Q : ρ → Prop) (n : Nat) (h0 : I 0 s0)
    (hs : ∀ i s, i < n → I i s → (∃ s', body s = some (.inl s') ∧ I (i + 1) s') ∨ ∃ r, body s = some (.inr r) ∧ Q r)
    (he : ∀ s, I n s → ∃ r, body s = some (.inr r) ∧ Q r) (hN : n < N) (hf : ∀ r, Q r → f r = x) : (whileF N body s0).bind f = x := by
  obtain ⟨r, h1, h2⟩ := whileF_inv I Q n h0 hs he hN
  rw [h1]
  exact hf r h2
theorem wrap64 {z : Int} (h1 : -9223372036854775808 ≤ z) (h2 : z ≤ 9223372036854775807) : IntKind.i64.wrap z = z := by
  show (let m := z % (2 ^ 64 : Int); if true && m ≥ (2 ^ 63 : Int) then m - (2 ^ 64 : Int) else m) = z
  simp only [Bool.true_and, decide_eq_true_eq]
  split <;> omega
theorem wrapN {i : Nat} (h : i < 9223372036854775807) : IntKind.i64.wrap ((i : Int) + 1) = (i : Int) + 1 := wrap64 (by omega) (by omega)

/-- the least number below n with a property -/
def fst (p : Nat → Bool) (n : Nat) : Option Nat := (List.range n).find? p
theorem fst_none {p : Nat → Bool} {n : Nat} : fst p n = none ↔ ∀ i, i < n → p i = false := by
  simp [fst, List.find?_eq_none]
theorem fst_some {p : Nat → Bool} {n i : Nat} : fst p n = some i ↔ i < n ∧ p i = true ∧ ∀ j, j < i → p j = false := by
  simp only [fst, List.find?_range_eq_some, Bool.not_eq_true']
  constructor
  · rintro ⟨a, b, c⟩
    exact ⟨by simpa using b, a, c⟩
  · rintro ⟨a, b, c⟩
    exact ⟨b, by simpa using a, c⟩
theorem fst_congr {p q : Nat → Bool} {n : Nat} (h : ∀ i, i < n → p i = q i) : fst p n = fst q n := by
  cases h1 : fst q n with
  | none => rw [fst_none] at h1 ⊢; intro i hi; rw [h i hi, h1 i hi]
  | some i =>
    rw [fst_some] at h1 ⊢
    exact ⟨h1.1, by rw [h i h1.1]; exact h1.2.1, fun j hj => by rw [h j (by omega)]; exact h1.2.2 j hj⟩
def oi : Option Nat → Int
  | some i => i
  | none => -1
def sres {ρ1 ρ2 : Type} (f : Nat → ρ2) (u : ρ1) : Option Nat → ρ1 ⊕ ρ2
  | some i => .inr (f i)
  | none => .inl u
/-- a loop that looks for an index -/
theorem search {ρ1 ρ2 : Type} {body : Int → Option (Int ⊕ (ρ1 ⊕ ρ2))} (p : Nat → Bool) (f : Nat → ρ2) (u : ρ1) (n : Nat) {N : Nat} (hN : n < N)
    (hb : ∀ i : Nat, i < n → body i = bif p i then some (.inr (.inr (f i))) else some (.inl ((i : Int) + 1))) (he : body n = some (.inr (.inl u))) :
    whileF N body 0 = some (sres f u (fst p n)) := by
  refine whileF_eq (fun i s => s = (i : Int) ∧ ∀ j, j < i → p j = false) n ⟨rfl, fun j h => by omega⟩ (fun i s hi hI => ?_) (fun s hI => ?_) hN
  · obtain ⟨rfl, hI⟩ := hI
    rw [hb i hi]
    cases hp : p i with
    | false => exact .inl ⟨_, rfl, by simp, fun j hj => by rcases Nat.lt_succ_iff_lt_or_eq.1 hj with h | rfl; exact hI j h; exact hp⟩
    | true =>
      right
      rw [fst_some.2 ⟨hi, hp, hI⟩]
      rfl
  · obtain ⟨rfl, hI⟩ := hI
    rw [he, fst_none.2 hI]
    rfl
/-- a loop that looks at all -/
theorem through {ρ1 ρ2 : Type} {body : Int → Option (Int ⊕ (ρ1 ⊕ ρ2))} (u : ρ1) (n : Nat) {N : Nat} (hN : n < N)
    (hb : ∀ i : Nat, i < n → body i = some (.inl ((i : Int) + 1))) (he : body n = some (.inr (.inl u))) : whileF N body 0 = some (.inl u) := by
  refine whileF_eq (fun i s => s = (i : Int)) n rfl (fun i s hi hI => ?_) (fun s hI => ?_) hN
  · subst hI
    exact .inl ⟨_, hb i hi, by simp⟩
  · subst hI
    exact he
theorem take_getD {α : Type} (l : List α) (i : Nat) (d : α) (h : i < l.length) : l.take (i + 1) = l.take i ++ [l.getD i d] := by
  rw [List.take_add_one, List.getElem?_eq_getElem h]
  simp [List.getD, List.getElem?_eq_getElem h]
theorem getD_set {α : Type} (l : List α) (i j : Nat) (x d : α) (h : i < l.length) : (l.set i x).getD j d = if i = j then x else l.getD j d := by
  simp only [List.getD, List.getElem?_set, h, if_true]
  split <;> rfl
theorem getD_take {α : Type} (l : List α) (i j : Nat) (d : α) (h : j < i) : (l.take i).getD j d = l.getD j d := by
  simp [List.getD, List.getElem?_take, h]
theorem list_ext {α : Type} {a b : List α} (d : α) (h : a.length = b.length) (h2 : ∀ i, i < a.length → a.getD i d = b.getD i d) : a = b := by
  refine List.ext_getElem h fun i h3 h4 => ?_
  have := h2 i h3
  simpa [List.getD, List.getElem?_eq_getElem h3, List.getElem?_eq_getElem h4] using this
/-- the first i of one list, then another -/
def mixd {α : Type} (t l : List α) (i : Nat) : List α := t.take i ++ l.drop i
section
variable {α : Type} {t l : List α} (h : t.length = l.length)
theorem mixd_zero : mixd t l 0 = l := by simp [mixd]
include h in
theorem mixd_all : mixd t l l.length = t := by simp [mixd, ← h]
include h in
theorem mixd_len (i : Nat) : (mixd t l i).length = l.length := by simp [mixd]; omega
include h in
theorem mixd_getD {i : Nat} (hi : i < l.length) (d : α) : (mixd t l i).getD i d = l.getD i d := by
  have : (t.take i).length = i := by simp; omega
  simp [mixd, List.getD, List.getElem?_append, this]
include h in
theorem mixd_set {i : Nat} (hi : i < l.length) (x : α) (d : α) (hx : x = t.getD i d) : (mixd t l i).set i x = mixd t l (i + 1) := by
  refine list_ext d (by rw [List.length_set, mixd_len h, mixd_len h]) fun j hj => ?_
  rw [List.length_set, mixd_len h] at hj
  rw [getD_set _ _ _ _ _ (by rw [mixd_len h]; exact hi)]
  have h1 : (t.take i).length = i := by simp; omega
  have h2 : (t.take (i + 1)).length = i + 1 := by simp; omega
  simp only [mixd, List.getD, List.getElem?_append, h1, h2, List.getElem?_take, List.getElem?_drop]
  by_cases hij : i = j
  · subst hij
    simp [hx, List.getD]
  · rw [if_neg hij]
    by_cases h3 : j < i
    · simp [h3, show j < i + 1 by omega]
    · simp [h3, show ¬ j < i + 1 by omega, show i + (j - i) = j by omega, show i + 1 + (j - (i + 1)) = j by omega]
include h in
theorem mixd_same {i : Nat} (hi : i < l.length) (d : α) (hx : l.getD i d = t.getD i d) : mixd t l i = mixd t l (i + 1) := by
  rw [← mixd_set h hi (l.getD i d) d hx]
  refine list_ext d (by rw [List.length_set]) fun j hj => ?_
  rw [getD_set _ _ _ _ _ (by rw [mixd_len h]; exact hi)]
  by_cases hij : i = j
  · subst hij
    rw [if_pos rfl, mixd_getD h hi]
  · rw [if_neg hij]
end
theorem getD_map {α β : Type} (f : α → β) (l : List α) (i : Nat) (d : α) (e : β) (h : i < l.length) : (l.map f).getD i e = f (l.getD i d) := by
  simp [List.getD, List.getElem?_eq_getElem h]
theorem mem_getD {α : Type} {l : List α} {x : α} (d : α) (h : x ∈ l) : ∃ i, i < l.length ∧ l.getD i d = x := by
  obtain ⟨i, hi, rfl⟩ := List.mem_iff_getElem.1 h
  exact ⟨i, hi, by simp [List.getD, List.getElem?_eq_getElem hi]⟩
theorem getD_mem {α : Type} (l : List α) (i : Nat) (d : α) (h : i < l.length) : l.getD i d ∈ l := by
  simp [List.getD, List.getElem?_eq_getElem h]
end Go.Cm
