/- Rules for computations that return with a property. No condition. -/
import Derived.Test.YthjmbcnohgaihaaFn6
import Derived.Test.YthjmbcnohgaihaaCmq
namespace Go.Proofs.Ythjmbcnohgaihaa
open Go.Cm Go.Proofs
/-! a computation returns, and its result has a property -/
def W {α : Type} (Q : α → Prop) (x : Option α) : Prop := ∃ r, x = some r ∧ Q r
theorem W_some {α : Type} {Q : α → Prop} {r : α} (h : Q r) : W Q (some r) := ⟨r, rfl, h⟩
theorem W_bind {α β : Type} {Q' : α → Prop} {Q : β → Prop} {x : Option α} {f : α → Option β} (h : W Q' x) (hf : ∀ r, Q' r → W Q (f r)) : W Q (x.bind f) := by
  obtain ⟨r, rfl, hr⟩ := h
  exact hf r hr
theorem W_cond {α : Type} {Q : α → Prop} {b : Bool} {x y : Option α} (h1 : b = true → W Q x) (h2 : b = false → W Q y) : W Q (bif b then x else y) := by
  cases b
  · exact h2 rfl
  · exact h1 rfl
theorem W_elim {α β γ : Type} {Q : γ → Prop} {f : α → Option γ} {g : β → Option γ} {r : α ⊕ β} (h1 : ∀ p, W Q (f p)) (h2 : ∀ p, W Q (g p)) : W Q (Sum.elim f g r) := by
  cases r
  · exact h1 _
  · exact h2 _
theorem W_mono {α : Type} {Q Q' : α → Prop} {x : Option α} (h : W Q x) (hq : ∀ r, Q r → Q' r) : W Q' x := by
  obtain ⟨r, e, hr⟩ := h
  exact ⟨r, e, hq r hr⟩
theorem W_loop {σ ρ : Type} {body : σ → Option (σ ⊕ ρ)} {s0 : σ} {N : Nat} {Q : ρ → Prop} (I : Nat → σ → Prop) (n : Nat) (h0 : I 0 s0) (hs : ∀ i s, i < n → I i s → W (Sum.elim (I (i + 1)) Q) (body s)) (he : ∀ s, I n s → W (Sum.elim (fun _ => False) Q) (body s)) (hN : n < N) : W Q (whileF N body s0) :=
  whileF_inv I Q n h0 (fun i s hi hI => by
    obtain ⟨r, e, hr⟩ := hs i s hi hI
    cases r with
    | inl s' => exact .inl ⟨s', e, hr⟩
    | inr r => exact .inr ⟨r, e, hr⟩) (fun s hI => by
    obtain ⟨r, e, hr⟩ := he s hI
    cases r with
    | inl s' => exact hr.elim
    | inr r => exact ⟨r, e, hr⟩) hN
theorem W_of_eq {α : Type} {Q : α → Prop} {a b : Option α} (h : a = b) (hw : W Q b) : W Q a := h ▸ hw
end Go.Proofs.Ythjmbcnohgaihaa
