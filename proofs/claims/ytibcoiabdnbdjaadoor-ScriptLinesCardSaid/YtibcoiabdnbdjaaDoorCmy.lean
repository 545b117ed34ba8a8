/- The abstract machine, third state: the check of a builder's own address. No condition. -/
import Derived.Test.YtibcoiabdnbdjaaDoorCmj
namespace Go.Cm
open Go.RowKit
set_option linter.unusedSectionVars false
variable [Sig]
/-- what is known of the functions that check a builder's address -/
structure ChkOk (P : Program) : Prop where
  can : ∀ f, Sig.chk f = true → Callable P f
  fresh : ∀ f, Sig.chk f = true → ∀ (w : World) (b : Nat) (ty : TypeId) (v : Value), Sig.bld ty = true → w.heap[b]? = some (.cells ⟨[.pointer none, v]⟩ ty (0, 0)) →
    Calls P f #[.pointer (some ⟨b, 0, none⟩)] w fun e w' => e = .returned (.tuple #[]) ∧ w' = w.setCell ⟨b, 0, none⟩ (.pointer (some ⟨b, 0, none⟩))
  used : ∀ f, Sig.chk f = true → ∀ (w : World) (b : Nat) (ty : TypeId) (v : Value), Sig.bld ty = true → w.heap[b]? = some (.cells ⟨[.pointer (some ⟨b, 0, none⟩), v]⟩ ty (0, 0)) →
    Calls P f #[.pointer (some ⟨b, 0, none⟩)] w fun e w' => e = .returned (.tuple #[]) ∧ w' = w
def isBld (bi : Bxs) (j : Nat) : Bool := match bget bi j with
  | .var ty [.selfn j', _] => Sig.bld ty && decide (j' = j)
  | _ => false
theorem isBld_spec {bi : Bxs} {j : Nat} (h : isBld bi j = true) : ∃ ty c, bget bi j = .var ty [.selfn j, c] ∧ Sig.bld ty = true := by
  unfold isBld at h
  split at h
  · rename_i ty j' c hb
    simp only [Bool.and_eq_true, decide_eq_true_eq] at h
    obtain ⟨h1, rfl⟩ := h
    exact ⟨ty, c, hb, h1⟩
  · cases h
def chkI {A : Type} (args : List AV) (bi : Bxs) (nb : Nat) (k : AV → Bxs → Nat → Option A) : Option A := match args with
  | [.ptr j 0] => (match isBld bi j with
    | true => k (.tup []) [] nb
    | false => bad 80)
  | _ => bad 81
def inlW {A : Type} (inl : Inl A) : Inl A := fun g args bi nb k => match Sig.chk g with
  | true => chkI args bi nb k
  | false => inl g args bi nb k
theorem chk_den {P : Program} (hc : ChkOk P) {f : FuncId} (hf : Sig.chk f = true) {bi : Bxs} {j : Nat} (h : isBld bi j = true) : DenB P f (bget bi) [.ptr j 0] (.tup []) (bget bi) := by
  obtain ⟨ty, c, hb, hty⟩ := isBld_spec h
  refine ⟨hc.can f hf, fun w ρ vs hs hvs => ?_⟩
  obtain ⟨v, us, rfl, hv, hus⟩ := hvs.head
  have hus : us = [] := List.eq_nil_of_length_eq_zero hus.1
  subst hus
  obtain ⟨hm, rfl⟩ := hv.inv_ptr
  have hbx := hs.box j
  rw [hb] at hbx
  obtain ⟨ws, hh, hr⟩ := hbx
  obtain ⟨v0, ws, rfl, hr0, hr1⟩ := hr.head
  obtain ⟨v1, ws, rfl, hrc, hr2⟩ := hr1.head
  have hws : ws = [] := List.eq_nil_of_length_eq_zero hr2.1
  subst hws
  obtain ⟨_, h0⟩ := hr0.inv_selfn
  have htup : ∀ (w : World) (ρ : Env) (bx : Nat → Box), Rep w ρ bx (.tuple #[]) (.tup []) := fun w ρ bx => .tup [] [] rfl (fun i v t h => by simp at h)
  rcases h0 with rfl | rfl
  · refine (hc.fresh f hf w (ρ.β j) ty v1 hty hh).mono fun e w' ⟨he, hw⟩ => ?_
    subst hw
    have hmod : ∀ b, (w.setCell ⟨ρ.β j, 0, none⟩ (.pointer (some ⟨ρ.β j, 0, none⟩))).heap[b]? = if b = ρ.β j then some (.cells ⟨[.pointer (some ⟨ρ.β j, 0, none⟩), v1]⟩ ty (0, 0)) else w.heap[b]? := fun b => by
      unfold World.setCell
      simp only [Array.getElem?_modify]
      by_cases hbj : b = ρ.β j
      · subst hbj
        rw [if_pos rfl, if_pos rfl, hh]
        rfl
      · rw [if_neg hbj, if_neg (Ne.symm hbj)]
    have hmut : Mut ρ (bget bi) (ρ.β j) := ⟨j, by unfold own; rw [hb]⟩
    have hext : Ext w ρ (bget bi) (w.setCell ⟨ρ.β j, 0, none⟩ (.pointer (some ⟨ρ.β j, 0, none⟩))) ρ (bget bi) := {
      below := (Below.refl 0 w).setCell (p := ⟨ρ.β j, 0, none⟩) (Nat.zero_le _) _
      keep := fun b _ hn => by
        rw [hmod, if_neg (fun e => hn (by rw [e]; exact hmut))]
      mutOld := fun b _ h => h
      env := fun k hk => ⟨rfl, rfl, hk⟩
      A := rfl }
    refine ⟨.tuple #[], ρ, he, hext, hs.upd hext (fun k => ?_) hs.inj, htup _ _ _⟩
    by_cases hk : k = j
    · subst hk
      right
      rw [hb]
      refine ⟨[.pointer (some ⟨ρ.β k, 0, none⟩), v1], by rw [hmod, if_pos rfl], RepL.cons (.selfn k _ hm (.inr rfl)) (RepL.cons (hrc.ext hext) ⟨rfl, fun i v t h => by simp at h⟩)⟩
    · left
      refine ⟨rfl, fun cc hcc => ?_⟩
      rw [hmod, if_neg (fun e => hk (hs.inj k j cc hcc (by unfold own; rw [hb]; simp only; rw [e])))]
  · refine (hc.used f hf w (ρ.β j) ty v1 hty hh).mono fun e w' ⟨he, hw⟩ => ?_
    subst hw
    exact ⟨.tuple #[], ρ, he, Ext.refl, hs, htup _ _ _⟩
theorem inlW_ok {P : Program} (hc : ChkOk P) {A : Type} {inl : Inl A} (h : InlOk P inl) : InlOk P (inlW inl) := by
  intro f args bi nb k a hlim ha
  unfold inlW at ha
  split at ha
  · rename_i hf
    unfold chkI at ha
    split at ha
    · rename_i j
      split at ha
      · rename_i hb
        exact ⟨.tup [], [], nb, chk_den hc hf hb, Nat.le_refl _, ha⟩
      · cases ha
    · cases ha
  · exact h f args bi nb k a hlim ha
/-- what is asked of a program -/
structure POk (P : Program) : Prop where
  mixed : P.follows .mixedOrders = true
  chk : ChkOk P
theorem ChkOk.none {P : Program} (h : ∀ f, Sig.chk f = false) : ChkOk P :=
  ⟨fun f hf => (by rw [h f] at hf; cases hf), fun f hf => (by rw [h f] at hf; cases hf), fun f hf => (by rw [h f] at hf; cases hf)⟩
end Go.Cm
