/- The abstract machine, part 1: abstract values (trees, own boxes) and the relation to the model's values and worlds; it is kept when the world grows. No condition. -/
import Derived.WalkKit
import Derived.Maps.AppendAt
namespace Go.Am
open Go.RowKit

inductive Tree where
  | lit (v : Value)
  | sl (L : List (List Tree))

inductive AV where
  | lit (v : Value)
  | agg (cs : List AV)
  | tup (cs : List AV)
  | sl (fl : Bool) (L : List (List Tree))
  | e0
  | row (k : Nat)
  | ptr (k off : Nat)
  | rp (k sz i j : Nat)
  | ep (fl : Bool) (cs : List Tree) (j : Nat)
  | clo (f : FuncId) (caps : List AV)
  | dead

inductive Box where
  | var (ty : TypeId) (cs : List AV)
  | row (fl : Bool) (e : TypeId) (sz : Nat) (L : List (List Tree))
  | gone
  | nil

structure Env where
  β : Nat → Nat
  hd : Nat → Value

def Box.alive : Box → Prop
  | .var .. => True
  | .row .. => True
  | _ => False
def Box.made : Box → Prop
  | .nil => False
  | _ => True
theorem Box.alive.made {b : Box} (h : b.alive) : b.made := by cases b <;> first | trivial | exact h.elim

/-- the real block that box k owns -/
def own (ρ : Env) (bx : Nat → Box) (k : Nat) : Option Nat :=
  match bx k with
  | .var .. => some (ρ.β k)
  | .row .. => (ρ.hd k).ownBlock
  | _ => none
def Mut (ρ : Env) (bx : Nat → Box) (b : Nat) : Prop := ∃ k, own ρ bx k = some b

inductive RepT (w : World) (ok : Nat → Prop) : Value → Tree → Prop
  | lit (v : Value) : RepT w ok v (.lit v)
  | sl (a : Option Addr) (len cap sz : Nat) (L : List (List Tree)) (f : Nat → Nat → Value) (hlen : L.length = len) (hcap : len ≤ cap) (hmax : cap ≤ maxLen)
      (hsz : ∀ es, es ∈ L → es.length = sz)
      (hc : ∀ (i j : Nat) (es : List Tree) (t : Tree), L[i]? = some es → es[j]? = some t → ∃ ad : Addr, a = some ad ∧ ad.spot = none ∧ ok ad.block ∧ w.cell? ⟨ad.block, ad.off + (i * sz + j), none⟩ = some (f i j))
      (hr : ∀ (i j : Nat) (es : List Tree) (t : Tree), L[i]? = some es → es[j]? = some t → RepT w ok (f i j) t) : RepT w ok (.slice a len cap) (.sl L)

def okS (B0 : Nat) (ρ : Env) (bx : Nat → Box) (fl : Bool) (b : Nat) : Prop := ¬ Mut ρ bx b ∧ (fl = true → B0 ≤ b)

inductive Rep (B0 : Nat) (w : World) (ρ : Env) (bx : Nat → Box) : Value → AV → Prop
  | lit (v : Value) : Rep B0 w ρ bx v (.lit v)
  | agg (vs : List Value) (ts : List AV) (hl : vs.length = ts.length) (h : ∀ (i : Nat) (v : Value) (t : AV), vs[i]? = some v → ts[i]? = some t → Rep B0 w ρ bx v t) : Rep B0 w ρ bx (.agg ⟨vs⟩) (.agg ts)
  | tup (vs : List Value) (ts : List AV) (hl : vs.length = ts.length) (h : ∀ (i : Nat) (v : Value) (t : AV), vs[i]? = some v → ts[i]? = some t → Rep B0 w ρ bx v t) : Rep B0 w ρ bx (.tuple ⟨vs⟩) (.tup ts)
  | sl (fl : Bool) (L : List (List Tree)) (v : Value) (h : RepT w (okS B0 ρ bx fl) v (.sl L)) : Rep B0 w ρ bx v (.sl fl L)
  | e0 (a : Option Addr) : Rep B0 w ρ bx (.slice a 0 0) .e0
  | row (k : Nat) (v : Value) (hm : (bx k).made) (hs : ∃ a n c, v = .slice a n c) (h : v = ρ.hd k) : Rep B0 w ρ bx v (.row k)
  | ptr (k off : Nat) (v : Value) (hm : (bx k).made) (h : v = .pointer (some ⟨ρ.β k, off, none⟩)) : Rep B0 w ρ bx v (.ptr k off)
  | rp (k sz i j : Nat) (v : Value) (hm : (bx k).made) (h : v = .pointer (some ⟨ρ.β k, i * sz + j, none⟩)) : Rep B0 w ρ bx v (.rp k sz i j)
  | ep (fl : Bool) (b o : Nat) (cs : List Tree) (j : Nat) (f : Nat → Value)
      (hc : ∀ (i : Nat) (t : Tree), cs[i]? = some t → okS B0 ρ bx fl b ∧ w.cell? ⟨b, o + i, none⟩ = some (f i))
      (hr : ∀ (i : Nat) (t : Tree), cs[i]? = some t → RepT w (okS B0 ρ bx fl) (f i) t) : Rep B0 w ρ bx (.pointer (some ⟨b, o + j, none⟩)) (.ep fl cs j)
  | clo (f : FuncId) (vs : List Value) (ts : List AV) (hl : vs.length = ts.length) (h : ∀ (i : Nat) (v : Value) (t : AV), vs[i]? = some v → ts[i]? = some t → Rep B0 w ρ bx v t) : Rep B0 w ρ bx (.func (.func f) #[] ⟨vs⟩) (.clo f ts)
  | dead (v : Value) : Rep B0 w ρ bx v .dead

def RepL (B0 : Nat) (w : World) (ρ : Env) (bx : Nat → Box) (vs : List Value) (ts : List AV) : Prop :=
  vs.length = ts.length ∧ ∀ (i : Nat) (v : Value) (t : AV), vs[i]? = some v → ts[i]? = some t → Rep B0 w ρ bx v t
def RepTL (w : World) (ok : Nat → Prop) (vs : List Value) (ts : List Tree) : Prop :=
  vs.length = ts.length ∧ ∀ (i : Nat) (v : Value) (t : Tree), vs[i]? = some v → ts[i]? = some t → RepT w ok v t

/-- what the step from one state to the next leaves as it was -/
structure Ext (B0 : Nat) (w : World) (ρ : Env) (bx : Nat → Box) (w' : World) (ρ' : Env) (bx' : Nat → Box) : Prop where
  below : Below B0 w w'
  keep : ∀ b, b < w.heap.size → ¬ Mut ρ bx b → w'.heap[b]? = w.heap[b]?
  mutOld : ∀ b, b < w.heap.size → Mut ρ' bx' b → Mut ρ bx b
  env : ∀ k, (bx k).made → ρ'.β k = ρ.β k ∧ ρ'.hd k = ρ.hd k ∧ (bx' k).made

theorem RepT.ext {w w' : World} {ok ok' : Nat → Prop} (h : ∀ b, ok b → b < w.heap.size → w'.heap[b]? = w.heap[b]? ∧ ok' b) {v : Value} {t : Tree} (r : RepT w ok v t) : RepT w' ok' v t := by
  induction r with
  | lit v => exact .lit v
  | sl a len cap sz L f hlen hcap hmax hsz hc hr ih =>
    refine .sl a len cap sz L f hlen hcap hmax hsz (fun i j es t h1 h2 => ?_) (fun i j es t h1 h2 => ih i j es t h1 h2)
    obtain ⟨ad, ha, hs, hk, hcell⟩ := hc i j es t h1 h2
    obtain ⟨hh, hk'⟩ := h _ hk (World.block_lt_of_cell? w ⟨ad.block, ad.off + (i * sz + j), none⟩ hcell)
    exact ⟨ad, ha, hs, hk', (World.cell?_of_block (a := ⟨ad.block, ad.off + (i * sz + j), none⟩) hh).trans hcell⟩

section
variable {B0 : Nat} {w w' : World} {ρ ρ' : Env} {bx bx' : Nat → Box}

theorem Ext.ok (h : Ext B0 w ρ bx w' ρ' bx') (fl : Bool) : ∀ b, okS B0 ρ bx fl b → b < w.heap.size → w'.heap[b]? = w.heap[b]? ∧ okS B0 ρ' bx' fl b :=
  fun b hk hb => ⟨h.keep b hb hk.1, fun hm => hk.1 (h.mutOld b hb hm), hk.2⟩

theorem Rep.ext (h : Ext B0 w ρ bx w' ρ' bx') {v : Value} {t : AV} (r : Rep B0 w ρ bx v t) : Rep B0 w' ρ' bx' v t := by
  induction r with
  | lit v => exact .lit v
  | agg vs ts hl _ ih => exact .agg vs ts hl ih
  | tup vs ts hl _ ih => exact .tup vs ts hl ih
  | sl fl L v r => exact .sl fl L v (r.ext (h.ok fl))
  | e0 a => exact .e0 a
  | row k v hm hs hv => exact .row k v (h.env k hm).2.2 hs (by rw [hv, (h.env k hm).2.1])
  | ptr k off v hm hv => exact .ptr k off v (h.env k hm).2.2 (by rw [hv, (h.env k hm).1])
  | rp k sz i j v hm hv => exact .rp k sz i j v (h.env k hm).2.2 (by rw [hv, (h.env k hm).1])
  | ep fl b o cs j f hc hr =>
    refine .ep fl b o cs j f (fun i t hi => ?_) (fun i t hi => (hr i t hi).ext (h.ok fl))
    obtain ⟨hk, hcell⟩ := hc i t hi
    obtain ⟨hh, hk'⟩ := h.ok fl b hk (World.block_lt_of_cell? w ⟨b, o + i, none⟩ hcell)
    exact ⟨hk', (World.cell?_of_block (a := ⟨b, o + i, none⟩) hh).trans hcell⟩
  | clo f vs ts hl _ ih => exact .clo f vs ts hl ih
  | dead v => exact .dead v

theorem RepL.ext (h : Ext B0 w ρ bx w' ρ' bx') {vs : List Value} {ts : List AV} (r : RepL B0 w ρ bx vs ts) : RepL B0 w' ρ' bx' vs ts :=
  ⟨r.1, fun i v t h1 h2 => (r.2 i v t h1 h2).ext h⟩

theorem Ext.refl : Ext B0 w ρ bx w ρ bx :=
  ⟨Below.refl _ _, fun _ _ _ => rfl, fun _ _ h => h, fun _ h => ⟨rfl, rfl, h⟩⟩

theorem Ext.trans {w'' : World} {ρ'' : Env} {bx'' : Nat → Box} (h : Ext B0 w ρ bx w' ρ' bx') (h' : Ext B0 w' ρ' bx' w'' ρ'' bx'') : Ext B0 w ρ bx w'' ρ'' bx'' where
  below := h.below.trans h'.below
  keep := fun b hb hm => (h'.keep b (Nat.lt_of_lt_of_le hb h.below.size) (fun hm' => hm (h.mutOld b hb hm'))).trans (h.keep b hb hm)
  mutOld := fun b hb hm => h.mutOld b hb (h'.mutOld b (Nat.lt_of_lt_of_le hb h.below.size) hm)
  env := fun k hk => by
    obtain ⟨a, b, c⟩ := h.env k hk
    obtain ⟨a', b', c'⟩ := h'.env k c
    exact ⟨a'.trans a, b'.trans b, c'⟩
end

/-- the boxes as they lie in the world -/
def SimBox (B0 : Nat) (w : World) (ρ : Env) (bx : Nat → Box) (k : Nat) : Box → Prop
  | .var ty cs => B0 ≤ ρ.β k ∧ ∃ vs : List Value, w.heap[ρ.β k]? = some (.cells ⟨vs⟩ ty (0, 0)) ∧ RepL B0 w ρ bx vs cs
  | .row fl e sz L => ∃ xs : List Value, w.ownsRow B0 e sz (ρ.hd k) L.length xs ∧ (∀ es, es ∈ L → es.length = sz) ∧ RepTL w (okS B0 ρ bx fl) xs L.flatten ∧ ∀ b, (ρ.hd k).ownBlock = some b → ρ.β k = b
  | .gone => True
  | .nil => True

structure SimB (B0 : Nat) (w : World) (ρ : Env) (bx : Nat → Box) : Prop where
  base : B0 ≤ w.heap.size
  box : ∀ k, SimBox B0 w ρ bx k (bx k)
  inj : ∀ k k' b, own ρ bx k = some b → own ρ bx k' = some b → k = k'

theorem SimB.own_lt {B0 : Nat} {w : World} {ρ : Env} {bx : Nat → Box} (h : SimB B0 w ρ bx) {k b : Nat} (ho : own ρ bx k = some b) : B0 ≤ b ∧ b < w.heap.size := by
  have hb := h.box k
  unfold own at ho
  cases hk : bx k with
  | var ty cs =>
    rw [hk] at hb ho
    obtain ⟨h1, vs, h2, _⟩ := hb
    injection ho with ho
    subst ho
    exact ⟨h1, (Array.getElem?_eq_some_iff.1 h2).1⟩
  | row fl e sz L =>
    rw [hk] at hb ho
    obtain ⟨xs, ⟨_, h1⟩, _⟩ := hb
    simp only at ho
    rcases h1 with ⟨h1, _⟩ | ⟨g, cap, cur, h1, h2, h3, _⟩
    · rw [h1] at ho; simp [Value.ownBlock] at ho
    · rw [h1] at ho
      simp only [Value.ownBlock, Option.some.injEq] at ho
      subst ho
      exact ⟨h2, (Array.getElem?_eq_some_iff.1 h3).1⟩
  | gone => rw [hk] at ho; cases ho
  | nil => rw [hk] at ho; cases ho

theorem SimB.mut_lt {B0 : Nat} {w : World} {ρ : Env} {bx : Nat → Box} (h : SimB B0 w ρ bx) {b : Nat} (ho : Mut ρ bx b) : B0 ≤ b ∧ b < w.heap.size := by
  obtain ⟨k, hk⟩ := ho
  exact h.own_lt hk

/-- the world changes, no box does -/
theorem Ext.world {B0 : Nat} {w w' : World} {ρ : Env} {bx : Nat → Box} (hb : Below w.heap.size w w') (h0 : B0 ≤ w.heap.size) : Ext B0 w ρ bx w' ρ bx where
  below := hb.mono h0
  keep := fun b hlt _ => hb.block b hlt
  mutOld := fun _ _ h => h
  env := fun _ h => ⟨rfl, rfl, h⟩

theorem RepTL.ext {w w' : World} {ok ok' : Nat → Prop} (h : ∀ b, ok b → b < w.heap.size → w'.heap[b]? = w.heap[b]? ∧ ok' b) {vs : List Value} {ts : List Tree} (r : RepTL w ok vs ts) : RepTL w' ok' vs ts :=
  ⟨r.1, fun i v t h1 h2 => (r.2 i v t h1 h2).ext h⟩

/-- a box whose own block has not changed -/
theorem SimBox.ext {B0 : Nat} {w w' : World} {ρ ρ' : Env} {bx bx' : Nat → Box} {k : Nat} {b : Box} (h : Ext B0 w ρ bx w' ρ' bx') (hb : SimBox B0 w ρ bx k b) (hbk : bx k = b) (hm : b.made)
    (hown : ∀ c, own ρ bx k = some c → w'.heap[c]? = w.heap[c]?) : SimBox B0 w' ρ' bx' k b := by
  obtain ⟨e1, e2, _⟩ := h.env k (by rw [hbk]; exact hm)
  cases b with
  | var ty cs =>
    obtain ⟨h1, vs, h2, h3⟩ := hb
    refine ⟨by rw [e1]; exact h1, vs, ?_, h3.ext h⟩
    rw [e1, hown (ρ.β k) (by simp [own, hbk])]
    exact h2
  | row fl e sz L =>
    obtain ⟨xs, h1, h2, h3, h4⟩ := hb
    refine ⟨xs, ?_, h2, h3.ext (h.ok fl), by rw [e1, e2]; exact h4⟩
    rw [e2]
    obtain ⟨hl, h1⟩ := h1
    refine ⟨hl, h1.imp id ?_⟩
    rintro ⟨g, cap, cur, hv, hg, hh, hr⟩
    refine ⟨g, cap, cur, hv, hg, ?_, hr⟩
    rw [hown g (by simp [own, hbk, hv, Value.ownBlock])]
    exact hh
  | gone => trivial
  | nil => exact hm.elim

theorem SimB.world {B0 : Nat} {w w' : World} {ρ : Env} {bx : Nat → Box} (h : SimB B0 w ρ bx) (hb : Below w.heap.size w w') : SimB B0 w' ρ bx where
  base := Nat.le_trans h.base hb.size
  box := fun k => by
    by_cases hm : (bx k).made
    · exact SimBox.ext (Ext.world hb h.base) (h.box k) rfl hm fun c hc => hb.block c (h.own_lt hc).2
    · cases hk : bx k <;> rw [hk] at hm <;> first | exact absurd trivial hm | trivial
  inj := h.inj
end Go.Am
