/- The abstract machine, part 7: frames, traces of a region, a region in the order of its text. No condition. -/
import Derived.Test.YtjlhngfmghipoaaAm6
namespace Go.Am
open Go.RowKit

structure St where
  fr : List (Nat × AV)
  bx : List Box

def lk : List (Nat × AV) → Nat → AV
  | [], _ => .dead
  | (k, v) :: r, s => if k = s then v else lk r s
def putF : List (Nat × AV) → Nat → AV → List (Nat × AV)
  | [], s, v => [(s, v)]
  | (k, u) :: r, s, v => if k = s then (k, v) :: r else (k, u) :: putF r s v
def putD (nt : Nat) (fr : List (Nat × AV)) (dst : Option Nat) (v : AV) : List (Nat × AV) :=
  match dst with
  | none => fr
  | some d => if d < nt then putF fr d v else fr
def evA (fr : List (Nat × AV)) : Operand → AV
  | .tmp t => lk fr t
  | .const v => ofV v
  | .global _ => .dead
  | .func f => .clo f []

theorem lk_putF (fr : List (Nat × AV)) (s j : Nat) (v : AV) : lk (putF fr s v) j = if j = s then v else lk fr j := by
  induction fr with
  | nil =>
    simp only [putF, lk]
    by_cases h : s = j
    · rw [if_pos h, if_pos h.symm]
    · rw [if_neg h, if_neg (Ne.symm h)]
  | cons p r ih =>
    obtain ⟨k, u⟩ := p
    simp only [putF]
    by_cases hk : k = s
    · subst hk
      rw [if_pos rfl]
      simp only [lk]
      by_cases h : k = j
      · rw [if_pos h, if_pos h.symm]
      · rw [if_neg h, if_neg (Ne.symm h), if_neg h]
    · rw [if_neg hk]
      simp only [lk]
      rw [ih]
      by_cases h : k = j
      · rw [if_pos h, if_pos h, if_neg (fun e => hk (h.trans e))]
      · rw [if_neg h, if_neg h]

/-- the frame as the activation's temporaries hold it -/
def FrOk (B0 : Nat) (w : World) (ρ : Env) (bx : Nat → Box) (nt : Nat) (a : Act) (g : Nat → AV) : Prop :=
  a.tmps.size = nt ∧ ∀ s, Rep B0 w ρ bx (a.tmps.getD s undef) (g s)

def putG (nt : Nat) (g : Nat → AV) (dst : Option Nat) (v : AV) : Nat → AV :=
  match dst with
  | none => g
  | some d => if d < nt then (fun s => if s = d then v else g s) else g
theorem lk_putD (nt : Nat) (fr : List (Nat × AV)) (dst : Option Nat) (v : AV) : lk (putD nt fr dst v) = putG nt (lk fr) dst v := by
  cases dst with
  | none => rfl
  | some d =>
    simp only [putD, putG]
    split
    · funext j; exact lk_putF fr d j v
    · rfl

theorem FrOk.put {B0 : Nat} {w : World} {ρ : Env} {bx : Nat → Box} {nt : Nat} {a : Act} {g : Nat → AV} (h : FrOk B0 w ρ bx nt a g) {v : Value} {t : AV} (hv : Rep B0 w ρ bx v t) (dst : Option Nat) : FrOk B0 w ρ bx nt (a.put dst v) (putG nt g dst t) := by
  cases dst with
  | none => exact h
  | some d =>
    obtain ⟨h1, h2⟩ := h
    refine ⟨by simp [Act.put, h1], fun s => ?_⟩
    simp only [putG, Act.put]
    by_cases hd : d < nt
    · rw [if_pos hd]
      by_cases hs : s = d
      · subst hs
        rw [if_pos rfl]
        simpa [Array.getElem?_setIfInBounds, h1, hd] using hv
      · rw [if_neg hs]
        have := h2 s
        simpa [Array.getElem?_setIfInBounds, Ne.symm hs] using this
    · rw [if_neg hd]
      have := h2 s
      simpa [Array.setIfInBounds, h1, hd] using this
theorem FrOk.ext {B0 : Nat} {w w' : World} {ρ ρ' : Env} {bx bx' : Nat → Box} {nt : Nat} {a : Act} {g : Nat → AV} (h : FrOk B0 w ρ bx nt a g) (he : Ext B0 w ρ bx w' ρ' bx') : FrOk B0 w' ρ' bx' nt a g :=
  ⟨h.1, fun s => (h.2 s).ext he⟩
def evG (g : Nat → AV) : Operand → AV
  | .tmp t => g t
  | .const v => ofV v
  | .global _ => .dead
  | .func f => .clo f []
theorem evA_eq (fr : List (Nat × AV)) : evA fr = evG (lk fr) := by funext x; cases x <;> rfl
theorem FrOk.eval {B0 : Nat} {w : World} {ρ : Env} {bx : Nat → Box} {nt : Nat} {a : Act} {g : Nat → AV} (h : FrOk B0 w ρ bx nt a g) (x : Operand) : Rep B0 w ρ bx (a.eval x) (evG g x) := by
  cases x with
  | tmp t => exact h.2 t
  | const v => exact Rep_ofV v
  | global => exact .dead _
  | func f => exact .clo f [] [] rfl (fun i v t h1 => by simp at h1)

/-- a guard: is the operation carried out? -/
def gOk (ops : Array Oper) (o : Oper) (g : Nat → AV) (run : Bool) : Prop :=
  match o.guard with
  | none => run = true
  | some (j, want) => ∃ s, (ops[j]?).bind (·.dst) = some s ∧ ((∃ b, g s = .lit (.bool b) ∧ run = (b == want)) ∨ (∃ v, g s = .lit v ∧ (∀ b, v ≠ .bool b) ∧ run = false))
theorem gOk_wanted {ops : Array Oper} {o : Oper} {g : Nat → AV} {run : Bool} (h : gOk ops o g run) {B0 : Nat} {w : World} {ρ : Env} {bx : Nat → Box} {nt : Nat} {a : Act} (hf : FrOk B0 w ρ bx nt a g) :
    Region.wanted o (yielded ops a.tmps) = run := by
  unfold gOk at h
  unfold Region.wanted
  cases hg : o.guard with
  | none => rw [hg] at h; simp only at h ⊢; exact h.symm
  | some p =>
    obtain ⟨j, want⟩ := p
    rw [hg] at h
    simp only at h ⊢
    obtain ⟨s, hs, h⟩ := h
    have hr := hf.2 s
    unfold yielded
    rw [hs]
    simp only [Option.bind_some]
    rcases h with ⟨b, hb, rfl⟩ | ⟨v, hb, hne, rfl⟩
    · rw [hb] at hr
      have hv := hr.inv_lit
      have hlt : s < a.tmps.size := by
        rcases Nat.lt_or_ge s a.tmps.size with h' | h'
        · exact h'
        · simp [Array.getElem?_eq_none h', undef] at hv
      have hv' : a.tmps[s]? = some (.bool b) := by
        simp [Array.getElem?_eq_getElem hlt] at hv ⊢
        exact hv
      rw [hv']
      cases b <;> cases want <;> rfl
    · rw [hb] at hr
      have hv := hr.inv_lit
      cases he : a.tmps[s]? with
      | none => rfl
      | some u =>
        have : u = v := by simpa [he] using hv
        subst this
        cases u <;> first | rfl | exact absurd rfl (hne _)

structure TrE where
  run : Bool
  v : AV
  e : List (Nat × Box)
  rd : List Nat

def Local1 (P : Program) (ops : Array Oper) (o : Oper) (g : Nat → AV) (bx : List Box) (t : TrE) : Prop :=
  gOk ops o g t.run ∧ (t.run = true → LocalOk P o (evG g) bx t.v t.e t.rd) ∧ (t.run = false → t.v = .lit undef ∧ t.e = [] ∧ t.rd = []) ∧ ∀ k b, (k, b) ∈ t.e → k ∈ t.rd ∨ k = bx.length

def Traced (P : Program) (nt : Nat) (ops : Array Oper) : List Oper → (Nat → AV) → List Box → List TrE → (Nat → AV) → List Box → Prop
  | [], g, bx, tr, g', bx' => tr = [] ∧ g' = g ∧ bx' = bx
  | o :: os, g, bx, tr, g', bx' => ∃ t tr', tr = t :: tr' ∧ Local1 P ops o g bx t ∧ Traced P nt ops os (putG nt g o.dst t.v) (appL bx t.e) tr' g' bx'

/-- two ways -/
def br (b : Bool) (x y : Prop) : Prop := match b with | true => x | false => y
theorem br_intro {b : Bool} {x y : Prop} (h1 : b = true → x) (h2 : b = false → y) : br b x y := by cases b; exact h2 rfl; exact h1 rfl
@[simp] theorem br_true (x y : Prop) : br true x y = x := rfl
@[simp] theorem br_false (x y : Prop) : br false x y = y := rfl
theorem br_elim {b : Bool} {x y : Prop} (h : br b x y) : (b = true → x) ∧ (b = false → y) := by cases b <;> simpa using h

/-- what the callees are taken to return -/
abbrev Gam := FuncId → List AV → Option AV
def withC (c : Option Prop) (k : Prop) : Prop := match c with | none => k | some p => p ∧ k
theorem withC_elim {c : Option Prop} {k : Prop} (h : withC c k) : CondP c ∧ k := by cases c; exact ⟨trivial, h⟩; exact h
/-- one operation, and what follows -/
def wpOne (Γ : Gam) (P : Program) (o : Oper) (st : St) (K : AV → List (Nat × Box) → List Nat → Prop) : Prop :=
  match o.op with
  | .call c => match c.callee with
    | .value (.func f) => match frzL st.bx (c.args.toList.map (evA st.fr)) with
      | some args => match Γ f args with
        | some r => Den P f args r ∧ K r [] ((c.args.toList.map (evA st.fr)).flatMap rdA)
        | none => False
      | none => False
    | .builtin b => match builtinF P b (c.args.toList.map (evA st.fr)) c.argTypes.toList st.bx with
      | some (cd, r, e, rd) => withC cd (K r e rd)
      | none => False
    | _ => False
  | .pick c a b => match evA st.fr c with
    | .lit (.bool t) => br t (K (evA st.fr a) [] []) (K (evA st.fr b) [] [])
    | _ => False
  | op => match opF P op (evA st.fr) st.bx with
    | some (cd, r, e, rd) => withC cd (K r e rd)
    | none => False

def wpOpsA (Γ : Gam) (P : Program) (nt : Nat) (ops : Array Oper) (K : St → List (List Nat × List Nat) → Prop) : List Oper → St → List (List Nat × List Nat) → Prop
  | [], st, lg => K st lg
  | o :: os, st, lg =>
    match o.guard with
    | none => wpOne Γ P o st fun r e rd => wpOpsA Γ P nt ops K os ⟨putD nt st.fr o.dst r, appL st.bx e⟩ ((rd, e.map (·.1)) :: lg)
    | some (j, want) => match (ops[j]?).bind (·.dst) with
      | none => False
      | some s => match lk st.fr s with
        | .lit (.bool b) =>
          match want with
          | true => br b (wpOne Γ P o ⟨putF st.fr s (.lit (.bool true)), st.bx⟩ fun r e rd => wpOpsA Γ P nt ops K os ⟨putD nt (putF st.fr s (.lit (.bool true))) o.dst r, appL st.bx e⟩ ((rd, e.map (·.1)) :: lg))
              (wpOpsA Γ P nt ops K os ⟨putD nt (putF st.fr s (.lit (.bool false))) o.dst (.lit undef), st.bx⟩ (([], []) :: lg))
          | false => br b (wpOpsA Γ P nt ops K os ⟨putD nt (putF st.fr s (.lit (.bool true))) o.dst (.lit undef), st.bx⟩ (([], []) :: lg))
              (wpOne Γ P o ⟨putF st.fr s (.lit (.bool false)), st.bx⟩ fun r e rd => wpOpsA Γ P nt ops K os ⟨putD nt (putF st.fr s (.lit (.bool false))) o.dst r, appL st.bx e⟩ ((rd, e.map (·.1)) :: lg))
        | .lit (.tuple _) => wpOpsA Γ P nt ops K os ⟨putD nt st.fr o.dst (.lit undef), st.bx⟩ (([], []) :: lg)
        | _ => False

/-- new boxes bear the next number -/
def newOk (bx : List Box) (e : List (Nat × Box)) (rd : List Nat) : Prop := ∀ k b, (k, b) ∈ e → k ∈ rd ∨ k = bx.length
theorem opF_new {P : Program} {op : Op} {ev : Operand → AV} {bx : List Box} {c : Option Prop} {r : AV} {e : List (Nat × Box)} {rd : List Nat} (h : opF P op ev bx = some (c, r, e, rd)) : newOk bx e rd := by
  have nil : ∀ rd, newOk bx [] rd := fun rd k b hb => by simp at hb
  unfold opF at h
  split at h <;> try (simp only [Option.some.injEq, Prod.mk.injEq] at h; obtain ⟨_, _, rfl, _⟩ := h; exact nil _)
  · unfold pickF at h; split at h <;> simp at h; obtain ⟨_, _, rfl, _⟩ := h; exact nil _
  · unfold boxF at h; split at h <;> simp at h; obtain ⟨_, _, rfl, _⟩ := h; intro k b hb; simp at hb; exact .inr hb.1
  · unfold allocF at h; split at h
    · unfold boxF at h; split at h <;> simp at h; obtain ⟨_, _, rfl, _⟩ := h; intro k b hb; simp at hb; exact .inr hb.1
    · cases h
  · unfold loadF at h; (repeat' split at h) <;> simp at h <;> (obtain ⟨_, _, rfl, _⟩ := h; exact nil _)
  · unfold storeF at h
    (repeat' split at h) <;> simp at h
    obtain ⟨_, _, rfl, rfl⟩ := h
    intro k b hb; simp at hb; exact .inl (by simp [hb.1])
  · unfold fieldAddrF at h; (repeat' split at h) <;> simp at h; obtain ⟨_, _, rfl, _⟩ := h; exact nil _
  · unfold indexAddrF at h; (repeat' split at h) <;> simp at h <;> (obtain ⟨_, _, rfl, _⟩ := h; exact nil _)
  · unfold binF at h; (repeat' split at h) <;> simp at h <;> (obtain ⟨_, _, rfl, _⟩ := h; exact nil _)
  · unfold unF at h; (repeat' split at h) <;> simp at h <;> (obtain ⟨_, _, rfl, _⟩ := h; exact nil _)
  · unfold extractF at h; (repeat' split at h) <;> simp at h; obtain ⟨_, _, rfl, _⟩ := h; exact nil _
  · unfold buildF at h; (repeat' split at h) <;> simp at h; obtain ⟨_, _, rfl, _⟩ := h; exact nil _
  · unfold convF at h; (repeat' split at h) <;> simp at h <;> (obtain ⟨_, _, rfl, _⟩ := h; exact nil _)
  · split at h
    · unfold builtinF at h
      split at h
      · unfold lenF at h; (repeat' split at h) <;> simp at h <;> (obtain ⟨_, _, rfl, _⟩ := h; exact nil _)
      · unfold mmF at h; (repeat' split at h) <;> simp at h <;> (obtain ⟨_, _, rfl, _⟩ := h; exact nil _)
      · unfold mmF at h; (repeat' split at h) <;> simp at h <;> (obtain ⟨_, _, rfl, _⟩ := h; exact nil _)
      · cases h
    · cases h
  · cases h

theorem wpOne_sound {Γ : Gam} {P : Program} {o : Oper} {st : St} {K : AV → List (Nat × Box) → List Nat → Prop} (h : wpOne Γ P o st K) :
    ∃ r e rd, LocalOk P o (evG (lk st.fr)) st.bx r e rd ∧ newOk st.bx e rd ∧ K r e rd := by
  rw [← evA_eq]
  have gen : ∀ res, opF P o.op (evA st.fr) st.bx = res → (match res with | some (cd, r, e, rd) => withC cd (K r e rd) | none => False) → ∃ r e rd, LocalOk P o (evA st.fr) st.bx r e rd ∧ newOk st.bx e rd ∧ K r e rd := by
    intro res hres h
    cases res with
    | none => exact h.elim
    | some p =>
      obtain ⟨cd, r, e, rd⟩ := p
      exact ⟨r, e, rd, opF_sound hres (withC_elim h).1, opF_new hres, (withC_elim h).2⟩
  unfold wpOne at h
  cases ho : o.op with
  | call c =>
    rw [ho] at h gen
    simp only at h
    split at h
    · rename_i f hc
      split at h
      · rename_i args' h1
        split at h
        · rename_i r hr
          exact ⟨r, [], _, call_sound ho hc h1 h.1, fun k b hb => by simp at hb, h.2⟩
        · exact h.elim
      · exact h.elim
    · rename_i b hc
      refine gen (builtinF P b (c.args.toList.map (evA st.fr)) c.argTypes.toList st.bx) ?_ h
      simp only [opF, hc]
    · exact h.elim
  | pick c x y =>
    rw [ho] at h gen
    simp only at h
    split at h
    · rename_i t hc
      cases t
      · exact gen (some (none, evA st.fr y, [], [])) (by show pickF (evA st.fr c) (evA st.fr x) (evA st.fr y) = _; rw [hc]; rfl) h
      · exact gen (some (none, evA st.fr x, [], [])) (by show pickF (evA st.fr c) (evA st.fr x) (evA st.fr y) = _; rw [hc]; rfl) h
    · exact h.elim
  | _ => rw [ho] at h gen; exact gen _ rfl h

theorem lk_putF_same (fr : List (Nat × AV)) (s : Nat) (v : AV) (h : lk fr s = v) : lk (putF fr s v) = lk fr := by
  funext j
  rw [lk_putF]
  split
  · rename_i e; rw [e, h]
  · rfl

theorem wpOpsA_traced {Γ : Gam} {P : Program} {nt : Nat} {ops : Array Oper} {K : St → List (List Nat × List Nat) → Prop} : ∀ (os : List Oper) (st : St) (lg : List (List Nat × List Nat)), wpOpsA Γ P nt ops K os st lg →
    ∃ tr st', Traced P nt ops os (lk st.fr) st.bx tr (lk st'.fr) st'.bx ∧ K st' ((tr.map fun t => (t.rd, t.e.map (·.1))).reverse ++ lg)
  | [], st, lg, h => ⟨[], st, ⟨rfl, rfl, rfl⟩, by simpa [wpOpsA] using h⟩
  | o :: os, st, lg, h => by
    have run : ∀ (fr' : List (Nat × AV)), lk fr' = lk st.fr → gOk ops o (lk st.fr) true → (wpOne Γ P o ⟨fr', st.bx⟩ fun r e rd => wpOpsA Γ P nt ops K os ⟨putD nt fr' o.dst r, appL st.bx e⟩ ((rd, e.map (·.1)) :: lg)) →
        ∃ tr st', Traced P nt ops (o :: os) (lk st.fr) st.bx tr (lk st'.fr) st'.bx ∧ K st' ((tr.map fun t => (t.rd, t.e.map (·.1))).reverse ++ lg) := by
      intro fr' hfr hg h
      obtain ⟨r, e, rd, h1, h2, h3⟩ := wpOne_sound h
      obtain ⟨tr, st', h4, h5⟩ := wpOpsA_traced os _ _ h3
      simp only [lk_putD, hfr] at h1 h4
      exact ⟨⟨true, r, e, rd⟩ :: tr, st', ⟨_, tr, rfl, ⟨hg, fun _ => h1, (fun h => by cases h), h2⟩, h4⟩, by simpa using h5⟩
    have skip : ∀ (fr' : List (Nat × AV)), lk fr' = lk st.fr → gOk ops o (lk st.fr) false → wpOpsA Γ P nt ops K os ⟨putD nt fr' o.dst (.lit undef), st.bx⟩ (([], []) :: lg) →
        ∃ tr st', Traced P nt ops (o :: os) (lk st.fr) st.bx tr (lk st'.fr) st'.bx ∧ K st' ((tr.map fun t => (t.rd, t.e.map (·.1))).reverse ++ lg) := by
      intro fr' hfr hg h
      obtain ⟨tr, st', h4, h5⟩ := wpOpsA_traced os _ _ h
      simp only [lk_putD, hfr] at h4
      exact ⟨⟨false, .lit undef, [], []⟩ :: tr, st', ⟨_, tr, rfl, ⟨hg, (fun h => by cases h), fun _ => ⟨rfl, rfl, rfl⟩, fun k b hb => by simp at hb⟩, h4⟩, by simpa using h5⟩
    unfold wpOpsA at h
    split at h
    · rename_i hg
      exact run st.fr rfl (by unfold gOk; rw [hg]) h
    · rename_i j want hg
      split at h
      · exact h.elim
      · rename_i s hs
        split at h
        · rename_i b hb
          have hgok : gOk ops o (lk st.fr) (b == want) := by unfold gOk; rw [hg]; exact ⟨s, hs, .inl ⟨b, hb, rfl⟩⟩
          split at h
          · cases b with
            | true => exact run _ (lk_putF_same _ _ _ hb) hgok h
            | false => exact skip _ (lk_putF_same _ _ _ hb) hgok h
          · cases b with
            | true => exact skip _ (lk_putF_same _ _ _ hb) hgok h
            | false => exact run _ (lk_putF_same _ _ _ hb) hgok h
        · rename_i vs hb
          exact skip st.fr rfl (by unfold gOk; rw [hg]; exact ⟨s, hs, .inr ⟨_, hb, (fun b e => by cases e), rfl⟩⟩) h
        · exact h.elim

/-- the abstract state and the world -/
structure Sim (B0 : Nat) (w0 : World) (nt : Nat) (ds : List Deferred) (st : St) (a : Act) (w : World) : Prop where
  below : Below B0 w0 w
  ex : ∃ ρ, SimB B0 w ρ (bget st.bx) ∧ FrOk B0 w ρ (bget st.bx) nt a (lk st.fr)
  defers : a.defers = ds

theorem put_defers (a : Act) (d : Option Nat) (v : Value) : (a.put d v).defers = a.defers := by cases d <;> rfl

theorem traced_seq {P : Program} {nt : Nat} {ops : Array Oper} {B0 : Nat} {w0 : World} {ds : List Deferred} {Q : Exit → Act → World → Prop} {st' : St} :
    ∀ (os : List Oper) (i : Nat) (g : Nat → AV) (bx : List Box) (tr : List TrE), (∀ j, os[j]? = ops[i + j]?) → Traced P nt ops os g bx tr (lk st'.fr) st'.bx → (∀ a w, Sim B0 w0 nt ds st' a w → Q .normal a w) →
    ∀ a w, Below B0 w0 w → (∃ ρ, SimB B0 w ρ (bget bx) ∧ FrOk B0 w ρ (bget bx) nt a g) → a.defers = ds → wpOps P ops Q (List.range' i os.length) a w
  | [], i, g, bx, tr, _, h, hq, a, w, hbel, hs, hd => by
    obtain ⟨_, rfl, rfl⟩ := h
    exact hq a w ⟨hbel, hs, hd⟩
  | o :: os, i, g, bx, tr, hops, h, hq, a, w, hbel, hs, hdef => by
    obtain ⟨t, tr', rfl, ⟨hg, hrun, hskip, hnew⟩, h⟩ := h
    obtain ⟨ρ, hsb, hfr⟩ := hs
    have ho : ops[i]? = some o := by have := hops 0; simpa using this.symm
    have hops' : ∀ j, os[j]? = ops[i + 1 + j]? := fun j => by have := hops (j + 1); rw [show i + 1 + j = i + (j + 1) by omega]; simpa using this
    rw [List.length_cons, List.range'_succ, wpOps_cons]
    unfold wpOp
    rw [ho]
    simp only
    rw [gOk_wanted hg hfr]
    cases hr : t.run with
    | true =>
      rw [if_pos rfl]
      left
      refine hrun hr B0 w ρ (bget bx) a _ _ (fun _ _ => rfl) (fun k b hb => (hnew k b hb).imp id fun e => by rw [e]; simp [bget, List.getD]) hsb (fun x _ => hfr.eval x) fun v' w' ρ' he hs' hv => ?_
      refine traced_seq os (i + 1) _ _ tr' hops' h hq _ _ (hbel.trans he.below) ⟨ρ', ?_, ?_⟩ (by rw [put_defers]; exact hdef)
      · rw [bget_appL]; exact hs'
      · rw [bget_appL]; exact (hfr.ext he).put hv o.dst
    | false =>
      rw [if_neg (by simp)]
      obtain ⟨e1, e2, e3⟩ := hskip hr
      refine traced_seq os (i + 1) _ _ tr' hops' h hq _ _ hbel ⟨ρ, ?_, ?_⟩ (by rw [put_defers]; exact hdef)
      · rw [bget_appL, e2]; exact hsb
      · rw [bget_appL, e1, e2]; exact hfr.put (.lit _) o.dst
end Go.Am
