/- The abstract machine, third state, part 11: contracts of functions, and what a call with boxes does to the caller's boxes. No condition. -/
import Derived.Test.YtibcoiabdnbdjaaDoorCma
namespace Go.Cm
open Go.RowKit
set_option linter.unusedSectionVars false
variable [Sig]

def Callable (P : Program) (f : FuncId) : Prop := ∃ fn, P.funcs[f]? = some fn ∧ fn.body.isSome = true ∧ (fn.name == "runtime.NumGoroutine") = false

/-- the contract: function f, called with these boxes and values, returns r; the boxes are bo then; all other memory is as it was -/
structure DenB (P : Program) (f : FuncId) (bi : Nat → Box) (args : List AV) (r : AV) (bo : Nat → Box) : Prop where
  can : Callable P f
  calls : ∀ (w : World) (ρ : Env) (vs : List Value), SimB w ρ bi → RepL w ρ bi vs args →
    Calls P f ⟨vs⟩ w fun e w' => ∃ v ρ', e = .returned v ∧ Ext w ρ bi w' ρ' bo ∧ SimB w' ρ' bo ∧ Rep w' ρ' bo v r

/-! which boxes a value leads to -/
def inK (K : List Nat) : Nat → AV → Bool
  | 0, _ => false
  | n + 1, t => match t with
    | .agg cs => cs.all (inK K n)
    | .tup cs => cs.all (inK K n)
    | .clo _ cs => cs.all (inK K n)
    | .bnd _ cs => cs.all (inK K n)
    | .row k => K.contains k
    | .ptr k _ => K.contains k
    | .rp k _ _ _ => K.contains k
    | .mp k => K.contains k
    | .selfn k => K.contains k
    | .rowz k => K.contains k
    | .sd k => K.contains k
    | _ => true
def boxInK (K : List Nat) : Box → Bool
  | .var _ cs => cs.all (inK K 3)
  | .tab ts => (ts.map (·.2)).all (inK K 3)
  | _ => true

section
variable {w : World} {ρ ρ' : Env} {bx bx' : Nat → Box}
theorem RepL.move {p : AV → Bool} (hp : ∀ {v t}, p t = true → Rep w ρ bx v t → Rep w ρ' bx' v t) {vs : List Value} {ts : List AV} (ht : ts.all p = true) (h : RepL w ρ bx vs ts) : RepL w ρ' bx' vs ts :=
  ⟨h.1, fun i v t h1 h2 => hp (List.all_eq_true.1 ht t (List.mem_of_getElem? h2)) (h.2 i v t h1 h2)⟩
theorem Rep.move {K : List Nat} (hk : ∀ k, k ∈ K → (bx k).made → (bx' k).made ∧ ρ'.β k = ρ.β k ∧ ρ'.hd k = ρ.hd k) (hok : ∀ b, b < w.heap.size → okS ρ bx b → okS ρ' bx' b) :
    ∀ (n : Nat) {v : Value} {t : AV}, inK K n t = true → Rep w ρ bx v t → Rep w ρ' bx' v t
  | 0, v, t, h, _ => by cases h
  | n + 1, v, t, h, r => by
    cases r with
    | lit v => exact .lit v
    | agg vs ts hl hr => have := RepL.move (fun h1 h2 => Rep.move hk hok n h1 h2) h ⟨hl, hr⟩; exact .agg vs _ this.1 this.2
    | tup vs ts hl hr => have := RepL.move (fun h1 h2 => Rep.move hk hok n h1 h2) h ⟨hl, hr⟩; exact .tup vs _ this.1 this.2
    | sl q v r => exact .sl q v (r.ext fun b hb hlt => ⟨rfl, hok b hlt hb⟩)
    | e0 a => exact .e0 a
    | row k v hm hs hv => have hm' := hk k (by simpa [inK] using h) hm; exact .row _ v hm'.1 hs (by rw [hv, hm'.2.2])
    | ptr k off v hm hv => have hm' := hk k (by simpa [inK] using h) hm; exact .ptr _ off v hm'.1 (by rw [hv, hm'.2.1])
    | rp k sz i j v hm hn hv => have hm' := hk k (by simpa [inK] using h) hm; exact .rp _ sz i j v hm'.1 (by rw [hm'.2.2]; exact hn) (by rw [hv, hm'.2.1])
    | ep b o cs j g hc hr => exact .ep b o cs j g (fun i t hi => ⟨hok b (World.block_lt_of_cell? w ⟨b, o + i, none⟩ (hc i t hi).2) (hc i t hi).1, (hc i t hi).2⟩) (fun i t hi => (hr i t hi).ext fun b hb hlt => ⟨rfl, hok b hlt hb⟩)
    | clo g vs ts hl hr => have := RepL.move (fun h1 h2 => Rep.move hk hok n h1 h2) h ⟨hl, hr⟩; exact .clo g vs _ this.1 this.2
    | bnd g vs ts hl hr => have := RepL.move (fun h1 h2 => Rep.move hk hok n h1 h2) h ⟨hl, hr⟩; exact .bnd g vs _ this.1 this.2
    | mp k v hm hv => have hm' := hk k (by simpa [inK] using h) hm; exact .mp _ v hm'.1 (by rw [hv, hm'.2.1])
    | selfn k v hm hv => have hm' := hk k (by simpa [inK] using h) hm; exact .selfn _ v hm'.1 (by rw [hm'.2.1]; exact hv)
    | rowz k v hm hz hv => have hm' := hk k (by simpa [inK] using h) hm; exact .rowz _ v hm'.1 hz (by rw [hv, hm'.2.2])
    | sd k v hm hv => have hm' := hk k (by simpa [inK] using h) hm; exact .sd _ v hm'.1 (by rw [hm'.2.2]; exact hv)
    | dead v => exact .dead v
theorem RowRep.ok {ok ok' : Nat → Prop} (hok : ∀ b, b < w.heap.size → ok b → ok' b) {xs : List Value} {q : Row} (h : RowRep w ok xs q) : RowRep w ok' xs q :=
  h.ext fun b hb hlt => ⟨rfl, hok b hlt hb⟩
theorem ownsR.mono {F F' : Nat → Prop} {e sz : Nat} {v : Value} {n : Nat} {xs : List Value} (h : ownsR w F e sz v n xs) (hF : ∀ b, ownB v = some b → F b → F' b) : ownsR w F' e sz v n xs := by
  refine ⟨h.1, ?_⟩
  rcases h.2 with h | ⟨g, cap, cur, rfl, h1, h2⟩
  · exact .inl h
  · exact .inr ⟨g, cap, cur, rfl, hF g rfl h1, h2⟩

/-- a box in the same world, seen from other boxes -/
theorem SimBox.move {K : List Nat} {k : Nat} {b : Box} (hβ : ρ'.β k = ρ.β k) (hh : ρ'.hd k = ρ.hd k) (hk : ∀ j, j ∈ K → (bx j).made → (bx' j).made ∧ ρ'.β j = ρ.β j ∧ ρ'.hd j = ρ.hd j)
    (hok : ∀ c, c < w.heap.size → okS ρ bx c → okS ρ' bx' c) (hA : ∀ full e q, b = .row full e q → ∀ c, ownB (ρ.hd k) = some c → c < w.heap.size → ρ.A c → ρ'.A c)
    (hin : boxInK K b = true) (h : SimBox w ρ bx k b) : SimBox w ρ' bx' k b := by
  cases b with
  | var ty cs =>
    obtain ⟨vs, h1, h2⟩ := h
    exact ⟨vs, by rw [hβ]; exact h1, RepL.move (fun a b => Rep.move hk hok 3 a b) hin h2⟩
  | row full e q =>
    obtain ⟨xs, h1, h2, h3, h4⟩ := h
    refine ⟨xs, ?_, h2.ok hok, by rw [hh, hβ]; exact h3, by rw [hh]; exact h4⟩
    rw [hh]
    exact h1.mono fun c hc hac => hA full e q rfl c hc (h1.lt hc).2 hac
  | frz e q =>
    obtain ⟨xs, h1, h2, h3⟩ := h
    have h5 : ∀ c, ownB (ρ.hd k) = some c → okS ρ' bx' c := fun c hc => hok c (h1.lt hc).2 ⟨(h3 c hc).2, (h1.lt hc).1⟩
    refine ⟨xs, ?_, h2.ok hok, fun c hc => ?_⟩
    · rw [hh]; exact h1.mono fun c hc _ => (h5 c hc).2
    · rw [hh] at hc
      exact ⟨by rw [hβ]; exact (h3 c hc).1, (h5 c hc).1⟩
  | map kd e f =>
    obtain ⟨es, cl, h1, h2, h3⟩ := h
    exact ⟨es, cl, by rw [hβ]; exact h1, h2, fun z => (h3 z).ext fun b hb hlt => ⟨rfl, hok b hlt hb⟩⟩
  | tab ts =>
    obtain ⟨es, cl, h1, h2, h3⟩ := h
    exact ⟨es, cl, by rw [hβ]; exact h1, h2, RepL.move (fun a b => Rep.move hk hok 3 a b) hin h3⟩
  | iter s p =>
    have h2 : w.heap[ρ.β k]? = some (.stringIter s p) := h
    show w.heap[ρ'.β k]? = some (.stringIter s p)
    rw [hβ]; exact h2
  | gone => trivial
  | nil => trivial
end

/-- some of the boxes -/
def onlyK (K : List Nat) (bx : Nat → Box) : Nat → Box := fun k => if k ∈ K then bx k else .nil
theorem onlyK_own {K : List Nat} {ρ ρ' : Env} {bx : Nat → Box} (hβ : ρ'.β = ρ.β) (hh : ρ'.hd = ρ.hd) {k b : Nat} (h : own ρ' (onlyK K bx) k = some b) : k ∈ K ∧ own ρ bx k = some b := by
  unfold own onlyK at h
  by_cases hk : k ∈ K
  · simp only [hk, if_true] at h
    refine ⟨hk, ?_⟩
    unfold own
    rw [hβ, hh] at h
    exact h
  · simp only [hk, if_false] at h
    cases h

/-- the callee's view -/
def envK (K : List Nat) (ρ : Env) (bx : Nat → Box) : Env := ⟨ρ.β, ρ.hd, fun b => ρ.A b ∧ ∀ k, k ∉ K → own ρ bx k ≠ some b⟩
theorem okS_envK {K : List Nat} {ρ : Env} {bx : Nat → Box} {b : Nat} (h : okS ρ bx b) : okS (envK K ρ bx) (onlyK K bx) b :=
  ⟨fun ⟨k, hk⟩ => h.1 ⟨k, (onlyK_own (ρ := ρ) rfl rfl hk).2⟩, h.2, fun k _ hk => h.1 ⟨k, hk⟩⟩
theorem SimB.onlyK {K : List Nat} {w : World} {ρ : Env} {bx : Nat → Box} (h : SimB w ρ bx) (hin : ∀ k, k ∈ K → boxInK K (bx k) = true) : SimB w (envK K ρ bx) (onlyK K bx) where
  base := fun b hb => ⟨h.base b hb, fun k _ hk => by have := h.own_lt hk; omega⟩
  box := fun k => by
    by_cases hk : k ∈ K
    · have he : Cm.onlyK K bx k = bx k := if_pos hk
      rw [he]
      refine SimBox.move (ρ := ρ) (bx := bx) (K := K) rfl rfl (fun j hj hm => ⟨by unfold Cm.onlyK; rw [if_pos hj]; exact hm, rfl, rfl⟩) (fun c _ hc => okS_envK hc) (fun full e q hb c hc _ ha => ⟨ha, fun k' hk' ho => ?_⟩) (hin k hk) (h.box k)
      have : own ρ bx k = some c := by unfold own; rw [hb]; exact hc
      exact hk' (by rw [h.inj k' k c ho this]; exact hk)
    · have he : Cm.onlyK K bx k = .nil := if_neg hk
      rw [he]; trivial
  inj := fun k k' b h1 h2 => h.inj k k' b (onlyK_own (ρ := ρ) rfl rfl h1).2 (onlyK_own (ρ := ρ) rfl rfl h2).2
  glob := h.glob.ext (Nat.le_refl _) fun b hb _ => ⟨rfl, okS_envK hb⟩

/-- the caller's boxes after a call: those that were handed over or are new, as the callee left them -/
def joinK (M : List Nat) (bx bo : Nat → Box) : Nat → Box := fun k => if k ∈ M then bo k else bx k
theorem frame_call {K N : List Nat} {w w' : World} {ρ ρc : Env} {bx bo : Nat → Box} (hs : SimB w ρ bx) (hN : ∀ k, k ∈ N → bx k = .nil)
    (he : Ext w (envK K ρ bx) (onlyK K bx) w' ρc bo) (hso : SimB w' ρc bo) (hin : ∀ k, k ∈ K ++ N → boxInK (K ++ N) (bo k) = true) :
    ∃ ρ', Ext w ρ bx w' ρ' (joinK (K ++ N) bx bo) ∧ SimB w' ρ' (joinK (K ++ N) bx bo) ∧ ∀ n v t, inK (K ++ N) n t = true → Rep w' ρc bo v t → Rep w' ρ' (joinK (K ++ N) bx bo) v t := by
  have hKM : ∀ k, k ∈ K → k ∈ K ++ N := fun k hk => List.mem_append_left _ hk
  let ρ' : Env := ⟨fun k => if k ∈ K ++ N then ρc.β k else ρ.β k, fun k => if k ∈ K ++ N then ρc.hd k else ρ.hd k, ρ.A⟩
  have hβi : ∀ k, k ∈ K ++ N → ρ'.β k = ρc.β k := fun k hk => if_pos hk
  have hhi : ∀ k, k ∈ K ++ N → ρ'.hd k = ρc.hd k := fun k hk => if_pos hk
  have hβo : ∀ k, k ∉ K ++ N → ρ'.β k = ρ.β k := fun k hk => if_neg hk
  have hho : ∀ k, k ∉ K ++ N → ρ'.hd k = ρ.hd k := fun k hk => if_neg hk
  have hji : ∀ k, k ∈ K ++ N → joinK (K ++ N) bx bo k = bo k := fun k hk => if_pos hk
  have hjo : ∀ k, k ∉ K ++ N → joinK (K ++ N) bx bo k = bx k := fun k hk => if_neg hk
  have hoi : ∀ k, k ∈ K ++ N → own ρ' (joinK (K ++ N) bx bo) k = own ρc bo k := fun k hk => own_other (hji k hk) (hβi k hk) (hhi k hk)
  have hoo : ∀ k, k ∉ K ++ N → own ρ' (joinK (K ++ N) bx bo) k = own ρ bx k := fun k hk => own_other (hjo k hk) (hβo k hk) (hho k hk)
  have hmutK : ∀ b, Mut (envK K ρ bx) (onlyK K bx) b → ∃ k, k ∈ K ∧ own ρ bx k = some b := fun b ⟨k, hk⟩ => ⟨k, onlyK_own (ρ := ρ) rfl rfl hk⟩
  -- an outer box's block is not touched
  have houter : ∀ k b, k ∉ K → own ρ bx k = some b → ¬ Mut (envK K ρ bx) (onlyK K bx) b := fun k b hk ho hm => by
    obtain ⟨j, hj, hjo⟩ := hmutK b hm
    exact hk (by rw [hs.inj k j b ho hjo]; exact hj)
  have hmut' : ∀ b, Mut ρ' (joinK (K ++ N) bx bo) b → Mut ρc bo b ∨ ∃ k, k ∉ K ++ N ∧ own ρ bx k = some b := fun b ⟨k, hk⟩ => by
    by_cases hm : k ∈ K ++ N
    · rw [hoi k hm] at hk; exact .inl ⟨k, hk⟩
    · rw [hoo k hm] at hk; exact .inr ⟨k, hm, hk⟩
  have hAc : ρc.A = (envK K ρ bx).A := he.A
  have hokc : ∀ b, okS ρc bo b → okS ρ' (joinK (K ++ N) bx bo) b := fun b hb => by
    have h2 := hb.2
    rw [hAc] at h2
    refine ⟨fun hm => ?_, h2.1⟩
    rcases hmut' b hm with h | ⟨k, hk, ho⟩
    · exact hb.1 h
    · exact h2.2 k (fun h => hk (hKM k h)) ho
  have hext : Ext w ρ bx w' ρ' (joinK (K ++ N) bx bo) := {
    below := he.below
    keep := fun b hb hm => he.keep b hb (fun h => by obtain ⟨k, _, hk⟩ := hmutK b h; exact hm ⟨k, hk⟩)
    mutOld := fun b hb hm => by
      rcases hmut' b hm with h | ⟨k, _, ho⟩
      · obtain ⟨k, _, hk⟩ := hmutK b (he.mutOld b hb h); exact ⟨k, hk⟩
      · exact ⟨k, ho⟩
    env := fun k hm => by
      by_cases hk : k ∈ K
      · have h1 : (onlyK K bx k).made := by unfold onlyK; rw [if_pos hk]; exact hm
        obtain ⟨e1, e2, e3⟩ := he.env k h1
        exact ⟨by rw [hβi k (hKM k hk), e1]; rfl, by rw [hhi k (hKM k hk), e2]; rfl, by rw [hji k (hKM k hk)]; exact e3⟩
      · by_cases hk' : k ∈ N
        · rw [hN k hk'] at hm; exact hm.elim
        · have : k ∉ K ++ N := by simp [hk, hk']
          exact ⟨hβo k this, hho k this, by rw [hjo k this]; exact hm⟩
    A := rfl }
  have hmv : ∀ j, j ∈ K ++ N → (bo j).made → (joinK (K ++ N) bx bo j).made ∧ ρ'.β j = ρc.β j ∧ ρ'.hd j = ρc.hd j := fun j hj hm => ⟨by rw [hji j hj]; exact hm, hβi j hj, hhi j hj⟩
  refine ⟨ρ', hext, ⟨fun b hb => hs.base b (Nat.le_trans he.below.size hb), fun k => ?_, fun k k' b h1 h2 => ?_, hs.glob.ext he.below.size hext.ok⟩, fun n v t hn r => Rep.move hmv (fun b _ hb => hokc b hb) n hn r⟩
  · by_cases hk : k ∈ K ++ N
    · rw [hji k hk]
      exact SimBox.move (ρ := ρc) (bx := bo) (hβi k hk) (hhi k hk) hmv (fun b _ hb => hokc b hb) (fun _ _ _ _ c _ _ ha => by rw [hAc] at ha; exact ha.1) (hin k hk) (hso.box k)
    · rw [hjo k hk]
      by_cases hm : (bx k).made
      · refine SimBox.ext hext (hs.box k) rfl hm fun c hc => he.keep c (hs.own_lt hc) (houter k c (fun h => hk (hKM k h)) hc)
      · cases hb : bx k <;> rw [hb] at hm <;> first | exact absurd trivial hm | trivial
  · have mixed : ∀ k k', k ∈ K ++ N → k' ∉ K ++ N → own ρc bo k = some b → own ρ bx k' = some b → False := fun k k' hk hk' e1 e2 => by
      have hb := hs.own_lt e2
      exact houter k' b (fun h => hk' (hKM k' h)) e2 (he.mutOld b hb ⟨k, e1⟩)
    by_cases hk : k ∈ K ++ N <;> by_cases hk' : k' ∈ K ++ N
    · rw [hoi k hk] at h1; rw [hoi k' hk'] at h2; exact hso.inj k k' b h1 h2
    · rw [hoi k hk] at h1; rw [hoo k' hk'] at h2; exact (mixed k k' hk hk' h1 h2).elim
    · rw [hoo k hk] at h1; rw [hoi k' hk'] at h2; exact (mixed k' k hk' hk h2 h1).elim
    · rw [hoo k hk] at h1; rw [hoo k' hk'] at h2; exact hs.inj k k' b h1 h2
end Go.Cm
