/- The abstract machine, third state, part 13: frames, traces of a region, a region in the order of its text. No condition. -/
import Derived.Test.YtibcoiabdnbdjaaDoorCmc
namespace Go.Cm
open Go.RowKit
set_option linter.unusedSectionVars false
variable [Sig]

/-- registers and boxes: what is new since the last loop or join stands in fr and bx -/
structure St where
  fr : List (Nat × AV)
  tl : List (Nat × AV)
  bx : Bxs
  bt : Bxs
  nb : Nat
def St.R (s : St) : List (Nat × AV) := s.fr ++ s.tl
def St.B (s : St) : Bxs := s.bx ++ s.bt

def lk : List (Nat × AV) → Nat → AV
  | [], _ => .dead
  | (k, v) :: r, s => if k = s then v else lk r s
def putD (nt : Nat) (fr : List (Nat × AV)) (dst : Option Nat) (v : AV) : List (Nat × AV) :=
  match dst with
  | none => fr
  | some d => if d < nt then (d, v) :: fr else fr
def evA (fr : List (Nat × AV)) : Operand → AV
  | .tmp t => lk fr t
  | .const v => ofV v
  | .global _ => .dead
  | .func f => .clo f []
theorem lk_cons (fr : List (Nat × AV)) (s j : Nat) (v : AV) : lk ((s, v) :: fr) j = if j = s then v else lk fr j := by
  simp only [lk]
  by_cases h : s = j
  · rw [if_pos h, if_pos h.symm]
  · rw [if_neg h, if_neg (Ne.symm h)]
theorem appL_append : ∀ (e : List (Nat × Box)) (bx bt : Bxs), appL bx e ++ bt = appL (bx ++ bt) e
  | [], _, _ => rfl
  | (k, b) :: e, bx, bt => by simp only [appL]; rw [appL_append e]; rfl

/-- the frame as the activation's temporaries hold it -/
def FrOk (w : World) (ρ : Env) (bx : Nat → Box) (nt : Nat) (a : Act) (g : Nat → AV) : Prop :=
  a.tmps.size = nt ∧ ∀ s, Rep w ρ bx (a.tmps.getD s undef) (g s)

def putG (nt : Nat) (g : Nat → AV) (dst : Option Nat) (v : AV) : Nat → AV :=
  match dst with
  | none => g
  | some d => if d < nt then (fun s => if s = d then v else g s) else g
theorem lk_putD (nt : Nat) (fr tl : List (Nat × AV)) (dst : Option Nat) (v : AV) : lk (putD nt fr dst v ++ tl) = putG nt (lk (fr ++ tl)) dst v := by
  cases dst with
  | none => rfl
  | some d =>
    simp only [putD, putG]
    split
    · funext j; exact lk_cons (fr ++ tl) d j v
    · rfl

theorem FrOk.put {w : World} {ρ : Env} {bx : Nat → Box} {nt : Nat} {a : Act} {g : Nat → AV} (h : FrOk w ρ bx nt a g) {v : Value} {t : AV} (hv : Rep w ρ bx v t) (dst : Option Nat) : FrOk w ρ bx nt (a.put dst v) (putG nt g dst t) := by
  cases dst with
  | none => exact h
  | some d =>
    obtain ⟨h1, h2⟩ := h
    refine ⟨by simp [Act.put, h1], fun s => ?_⟩
    simp only [putG, Act.put]
    by_cases hd : d < nt
    · rw [if_pos hd]
      by_cases hs : s = d
      · subst hs
        rw [if_pos rfl]
        simpa [Array.getElem?_setIfInBounds, h1, hd] using hv
      · rw [if_neg hs]
        have := h2 s
        simpa [Array.getElem?_setIfInBounds, Ne.symm hs] using this
    · rw [if_neg hd]
      have := h2 s
      simpa [Array.setIfInBounds, h1, hd] using this
theorem FrOk.ext {w w' : World} {ρ ρ' : Env} {bx bx' : Nat → Box} {nt : Nat} {a : Act} {g : Nat → AV} (h : FrOk w ρ bx nt a g) (he : Ext w ρ bx w' ρ' bx') : FrOk w' ρ' bx' nt a g :=
  ⟨h.1, fun s => (h.2 s).ext he⟩
def evG (g : Nat → AV) : Operand → AV
  | .tmp t => g t
  | .const v => ofV v
  | .global _ => .dead
  | .func f => .clo f []
theorem evA_eq (fr : List (Nat × AV)) : evA fr = evG (lk fr) := by funext x; cases x <;> rfl
theorem FrOk.eval {w : World} {ρ : Env} {bx : Nat → Box} {nt : Nat} {a : Act} {g : Nat → AV} (h : FrOk w ρ bx nt a g) (x : Operand) : Rep w ρ bx (a.eval x) (evG g x) := by
  cases x with
  | tmp t => exact h.2 t
  | const v => exact Rep_ofV v
  | global => exact .dead _
  | func f => exact .clo f [] [] rfl (fun i v t h1 => by simp at h1)

/-- a guard: is the operation carried out? -/
def gOk (ops : Array Oper) (o : Oper) (g : Nat → AV) (run : Bool) : Prop :=
  match o.guard with
  | none => run = true
  | some (j, want) => ∃ s, (ops[j]?).bind (·.dst) = some s ∧ ((∃ b, g s = .lit (.bool b) ∧ run = (b == want)) ∨ (∃ v, g s = .lit v ∧ (∀ b, v ≠ .bool b) ∧ run = false))
theorem gOk_wanted {ops : Array Oper} {o : Oper} {g : Nat → AV} {run : Bool} (h : gOk ops o g run) {w : World} {ρ : Env} {bx : Nat → Box} {nt : Nat} {a : Act} (hf : FrOk w ρ bx nt a g) :
    Region.wanted o (yielded ops a.tmps) = run := by
  unfold gOk at h
  unfold Region.wanted
  cases hg : o.guard with
  | none => rw [hg] at h; simp only at h ⊢; exact h.symm
  | some p =>
    obtain ⟨j, want⟩ := p
    rw [hg] at h
    simp only at h ⊢
    obtain ⟨s, hs, h⟩ := h
    have hr := hf.2 s
    unfold yielded
    rw [hs]
    simp only [Option.bind_some]
    rcases h with ⟨b, hb, rfl⟩ | ⟨v, hb, hne, rfl⟩
    · rw [hb] at hr
      have hv := hr.inv_lit
      have hlt : s < a.tmps.size := by
        rcases Nat.lt_or_ge s a.tmps.size with h' | h'
        · exact h'
        · simp [Array.getElem?_eq_none h', undef] at hv
      have hv' : a.tmps[s]? = some (.bool b) := by
        simp [Array.getElem?_eq_getElem hlt] at hv ⊢
        exact hv
      rw [hv']
      cases b <;> cases want <;> rfl
    · rw [hb] at hr
      have hv := hr.inv_lit
      cases he : a.tmps[s]? with
      | none => rfl
      | some u =>
        have : u = v := by simpa [he] using hv
        subst this
        cases u <;> first | rfl | exact absurd rfl (hne _)

structure TrE where
  run : Bool
  v : AV
  e : List (Nat × Box)
  rd : List Nat

def Local1 (P : Program) (ops : Array Oper) (o : Oper) (g : Nat → AV) (bx : Bxs) (t : TrE) : Prop :=
  gOk ops o g t.run ∧ (t.run = true → LocalOk P o (evG g) bx t.v t.e t.rd) ∧ (t.run = false → t.v = .lit undef ∧ t.e = [] ∧ t.rd = []) ∧ ∀ k b, (k, b) ∈ t.e → k ∈ t.rd ∨ bget bx k = .nil

def Traced (P : Program) (nt : Nat) (ops : Array Oper) : List Oper → (Nat → AV) → Bxs → List TrE → (Nat → AV) → Bxs → Prop
  | [], g, bx, tr, g', bx' => tr = [] ∧ g' = g ∧ bx' = bx
  | o :: os, g, bx, tr, g', bx' => ∃ t tr', tr = t :: tr' ∧ Local1 P ops o g bx t ∧ Traced P nt ops os (putG nt g o.dst t.v) (appL bx t.e) tr' g' bx'

/-- where a run began: its world and boxes; n: their numbers are below -/
structure Start where
  w : World
  ρ : Env
  b : Nat → Box
  n : Nat
  lim : ∀ k, (b k).made → k < n
/-- the abstract state and the world -/
structure Sim (S : Start) (nt : Nat) (ds : List Deferred) (st : St) (a : Act) (w : World) : Prop where
  ex : ∃ ρ, Ext S.w S.ρ S.b w ρ (bget st.B) ∧ SimB w ρ (bget st.B) ∧ FrOk w ρ (bget st.B) nt a (lk st.R)
  defers : a.defers = ds
  nb : S.n ≤ st.nb

theorem put_defers (a : Act) (d : Option Nat) (v : Value) : (a.put d v).defers = a.defers := by cases d <;> rfl

theorem traced_seq {P : Program} {nt : Nat} {ops : Array Oper} {S : Start} {ds : List Deferred} {Q : Exit → Act → World → Prop} {st' : St} :
    ∀ (os : List Oper) (i : Nat) (g : Nat → AV) (bx : Bxs) (tr : List TrE), (∀ j, os[j]? = ops[i + j]?) → Traced P nt ops os g bx tr (lk st'.R) st'.B → (∀ a w, Sim S nt ds st' a w → Q .normal a w) →
    S.n ≤ st'.nb → ∀ a w, (∃ ρ, Ext S.w S.ρ S.b w ρ (bget bx) ∧ SimB w ρ (bget bx) ∧ FrOk w ρ (bget bx) nt a g) → a.defers = ds → wpOps P ops Q (List.range' i os.length) a w
  | [], i, g, bx, tr, _, h, hq, hnb, a, w, hs, hd => by
    obtain ⟨_, rfl, rfl⟩ := h
    exact hq a w ⟨hs, hd, hnb⟩
  | o :: os, i, g, bx, tr, hops, h, hq, hnb, a, w, hs, hdef => by
    obtain ⟨t, tr', rfl, ⟨hg, hrun, hskip, hnew⟩, h⟩ := h
    obtain ⟨ρ, hx0, hsb, hfr⟩ := hs
    have ho : ops[i]? = some o := by have := hops 0; simpa using this.symm
    have hops' : ∀ j, os[j]? = ops[i + 1 + j]? := fun j => by have := hops (j + 1); rw [show i + 1 + j = i + (j + 1) by omega]; simpa using this
    rw [List.length_cons, List.range'_succ, wpOps_cons]
    unfold wpOp
    rw [ho]
    simp only
    rw [gOk_wanted hg hfr]
    cases hr : t.run with
    | true =>
      rw [if_pos rfl]
      left
      refine hrun hr w ρ (bget bx) a _ _ (fun _ _ => rfl) (fun k b hb => hnew k b hb) hsb (fun x _ => hfr.eval x) fun v' w' ρ' he hs' hv => ?_
      refine traced_seq os (i + 1) _ _ tr' hops' h hq hnb _ _ ⟨ρ', ?_, ?_, ?_⟩ (by rw [put_defers]; exact hdef)
      · rw [bget_appL]; exact hx0.trans he
      · rw [bget_appL]; exact hs'
      · rw [bget_appL]; exact (hfr.ext he).put hv o.dst
    | false =>
      rw [if_neg (by simp)]
      obtain ⟨e1, e2, e3⟩ := hskip hr
      refine traced_seq os (i + 1) _ _ tr' hops' h hq hnb _ _ ⟨ρ, ?_, ?_, ?_⟩ (by rw [put_defers]; exact hdef)
      · rw [bget_appL, e2]; exact hx0
      · rw [bget_appL, e2]; exact hsb
      · rw [bget_appL, e1, e2]; exact hfr.put (.lit _) o.dst
end Go.Cm
