/- The abstract machine, third state, part 1: abstract values (typed rows, own boxes) and the relation to the model's values and worlds; it is kept when the world grows. No condition. -/
import Derived.WalkKit
import Derived.Maps.AppendAt
namespace Go.Cm
open Go.RowKit

/-- a row of elements of one type -/
structure RowOf (TI : Type) (Car : TI → Type) where
  e : TI
  l : List (Car e)

inductive TreeOf (TI : Type) (Car : TI → Type) where
  | lit (v : Value)
  | sl (q : RowOf TI Car)

/-- kinds of one cell -/
inductive LK (TI : Type) where
  | int (k : IntKind)
  | bool
  | str
  | sl (e : TI)

def fit1 {TI : Type} [DecidableEq TI] {Car : TI → Type} : LK TI → TreeOf TI Car → Bool
  | .int k, .lit (.int k' _) => decide (k = k')
  | .bool, .lit (.bool _) => true
  | .str, .lit (.string _) => true
  | .sl e, .sl q => decide (e = q.e)
  | _, _ => false
def fits {TI : Type} [DecidableEq TI] {Car : TI → Type} : List (LK TI) → List (TreeOf TI Car) → Bool
  | [], [] => true
  | k :: ks, t :: ts => fit1 k t && fits ks ts
  | _, _ => false

/-- the data types of a program: their values in Lean, their cells -/
class Sig where
  TI : Type
  deq : DecidableEq TI
  Car : TI → Type
  dft : (e : TI) → Car e
  shp : TI → List (LK TI)
  isAgg : TI → Bool
  enc : (e : TI) → Car e → List (TreeOf TI Car)
  dec : (e : TI) → List (TreeOf TI Car) → Car e
  enc_fits : ∀ e x, fits (shp e) (enc e x) = true
  enc_dec : ∀ e ts, fits (shp e) ts = true → enc e (dec e ts) = ts
  ofId : TypeId → Option TI
  glob : Nat → Option (RowOf TI Car)
  bld : TypeId → Bool
  chk : Nat → Bool
instance [s : Sig] : DecidableEq Sig.TI := s.deq

theorem fits_len {TI : Type} [DecidableEq TI] {Car : TI → Type} : ∀ {ks : List (LK TI)} {ts : List (TreeOf TI Car)}, fits ks ts = true → ts.length = ks.length
  | [], [], _ => rfl
  | [], _ :: _, h => by cases h
  | _ :: _, [], h => by cases h
  | k :: ks, t :: ts, h => by
    simp only [fits, Bool.and_eq_true] at h
    simp [fits_len h.2]

section
variable [Sig]
abbrev Row := RowOf Sig.TI Sig.Car
abbrev Tree := TreeOf Sig.TI Sig.Car
def RowOf.n (q : Row) : Nat := q.l.length
def RowOf.g (q : Row) (i : Nat) : List Tree := Sig.enc q.e (q.l.getD i (Sig.dft q.e))
def RowOf.sz (q : Row) : Nat := (Sig.shp q.e).length
theorem RowOf.g_len (q : Row) (i : Nat) : (q.g i).length = q.sz := fits_len (Sig.enc_fits _ _)
end

section
variable [Sig]
inductive AV where
  | lit (v : Value)
  | agg (cs : List AV)
  | tup (cs : List AV)
  | sl (q : Row)
  | e0
  | row (k : Nat)
  | ptr (k off : Nat)
  | rp (k sz i j : Nat)
  | ep (cs : List Tree) (j : Nat)
  | clo (f : FuncId) (caps : List AV)
  | bnd (f : FuncId) (fi : List AV)
  | mp (k : Nat)
  | selfn (k : Nat)
  | rowz (k : Nat)
  | sd (k : Nat)
  | dead

inductive Box where
  | var (ty : TypeId) (cs : List AV)
  | row (full : Bool) (e : TypeId) (q : Row)
  | frz (e : TypeId) (q : Row)
  | map (kd : IntKind) (e : Sig.TI) (f : Int → Option (Sig.Car e))
  | tab (es : List (ByteArray × AV))
  | iter (s : ByteArray) (pos : Nat)
  | gone
  | nil

/-- the real blocks and heads of the boxes; A: the memory that shared values may lie in; all new memory is among it -/
structure Env where
  β : Nat → Nat
  hd : Nat → Value
  A : Nat → Prop

def Box.made : Box → Prop
  | .nil => False
  | _ => True

/-- the block that a slice's head holds, if it has room at all -/
def ownB : Value → Option Nat
  | .slice (some a) _ (_ + 1) => some a.block
  | _ => none
/-- the real block that box k owns -/
def own (ρ : Env) (bx : Nat → Box) (k : Nat) : Option Nat :=
  match bx k with
  | .var .. => some (ρ.β k)
  | .row .. => ownB (ρ.hd k)
  | .map .. => some (ρ.β k)
  | .tab .. => some (ρ.β k)
  | .iter .. => some (ρ.β k)
  | _ => none
def Mut (ρ : Env) (bx : Nat → Box) (b : Nat) : Prop := ∃ k, own ρ bx k = some b

inductive RepT (w : World) (ok : Nat → Prop) : Value → Tree → Prop
  | lit (v : Value) : RepT w ok v (.lit v)
  | sl (a : Option Addr) (len cap : Nat) (q : Row) (f : Nat → Nat → Value) (hlen : q.n = len) (hcap : len ≤ cap) (hmax : cap ≤ maxLen)
      (hone : ∀ i j, i < q.n → j < q.sz → (f i j).oneCell' = true)
      (hc : ∀ (i j : Nat), i < q.n → j < q.sz → ∃ ad : Addr, a = some ad ∧ ad.spot = none ∧ ok ad.block ∧ w.cell? ⟨ad.block, ad.off + (i * q.sz + j), none⟩ = some (f i j))
      (hr : ∀ (i j : Nat) (t : Tree), i < q.n → (q.g i)[j]? = some t → RepT w ok (f i j) t) : RepT w ok (.slice a len cap) (.sl q)

def okS (ρ : Env) (bx : Nat → Box) (b : Nat) : Prop := ¬ Mut ρ bx b ∧ ρ.A b

/-- nil, or a slice with room -/
def NZ (v : Value) : Prop := v = .slice none 0 0 ∨ ∃ ad n c, v = .slice (some ad) n (c + 1)
/-- the pointer to a slice's elements -/
def SDof (hd v : Value) : Prop := ∃ a n c p, hd = .slice a n c ∧ v = .pointer p ∧ (n ≠ 0 → p = a)
inductive Rep (w : World) (ρ : Env) (bx : Nat → Box) : Value → AV → Prop
  | lit (v : Value) : Rep w ρ bx v (.lit v)
  | agg (vs : List Value) (ts : List AV) (hl : vs.length = ts.length) (h : ∀ (i : Nat) (v : Value) (t : AV), vs[i]? = some v → ts[i]? = some t → Rep w ρ bx v t) : Rep w ρ bx (.agg ⟨vs⟩) (.agg ts)
  | tup (vs : List Value) (ts : List AV) (hl : vs.length = ts.length) (h : ∀ (i : Nat) (v : Value) (t : AV), vs[i]? = some v → ts[i]? = some t → Rep w ρ bx v t) : Rep w ρ bx (.tuple ⟨vs⟩) (.tup ts)
  | sl (q : Row) (v : Value) (h : RepT w (okS ρ bx) v (.sl q)) : Rep w ρ bx v (.sl q)
  | e0 (a : Option Addr) : Rep w ρ bx (.slice a 0 0) .e0
  | row (k : Nat) (v : Value) (hm : (bx k).made) (hs : ∃ a n c, v = .slice a n c) (h : v = ρ.hd k) : Rep w ρ bx v (.row k)
  | ptr (k off : Nat) (v : Value) (hm : (bx k).made) (h : v = .pointer (some ⟨ρ.β k, off, none⟩)) : Rep w ρ bx v (.ptr k off)
  | rp (k sz i j : Nat) (v : Value) (hm : (bx k).made) (hn : ∃ a n c, ρ.hd k = .slice a n c ∧ i < n) (h : v = .pointer (some ⟨ρ.β k, i * sz + j, none⟩)) : Rep w ρ bx v (.rp k sz i j)
  | ep (b o : Nat) (cs : List Tree) (j : Nat) (f : Nat → Value)
      (hc : ∀ (i : Nat) (t : Tree), cs[i]? = some t → okS ρ bx b ∧ w.cell? ⟨b, o + i, none⟩ = some (f i))
      (hr : ∀ (i : Nat) (t : Tree), cs[i]? = some t → RepT w (okS ρ bx) (f i) t) : Rep w ρ bx (.pointer (some ⟨b, o + j, none⟩)) (.ep cs j)
  | clo (f : FuncId) (vs : List Value) (ts : List AV) (hl : vs.length = ts.length) (h : ∀ (i : Nat) (v : Value) (t : AV), vs[i]? = some v → ts[i]? = some t → Rep w ρ bx v t) : Rep w ρ bx (.func (.func f) #[] ⟨vs⟩) (.clo f ts)
  | bnd (f : FuncId) (vs : List Value) (ts : List AV) (hl : vs.length = ts.length) (h : ∀ (i : Nat) (v : Value) (t : AV), vs[i]? = some v → ts[i]? = some t → Rep w ρ bx v t) : Rep w ρ bx (.func (.func f) ⟨vs⟩ #[]) (.bnd f ts)
  | mp (k : Nat) (v : Value) (hm : (bx k).made) (h : v = .map (some (ρ.β k))) : Rep w ρ bx v (.mp k)
  | selfn (k : Nat) (v : Value) (hm : (bx k).made) (h : v = .pointer none ∨ v = .pointer (some ⟨ρ.β k, 0, none⟩)) : Rep w ρ bx v (.selfn k)
  | rowz (k : Nat) (v : Value) (hm : (bx k).made) (hz : NZ v) (h : v = ρ.hd k) : Rep w ρ bx v (.rowz k)
  | sd (k : Nat) (v : Value) (hm : (bx k).made) (h : SDof (ρ.hd k) v) : Rep w ρ bx v (.sd k)
  | dead (v : Value) : Rep w ρ bx v .dead

def RepL (w : World) (ρ : Env) (bx : Nat → Box) (vs : List Value) (ts : List AV) : Prop :=
  vs.length = ts.length ∧ ∀ (i : Nat) (v : Value) (t : AV), vs[i]? = some v → ts[i]? = some t → Rep w ρ bx v t
def RepTL (w : World) (ok : Nat → Prop) (vs : List Value) (ts : List Tree) : Prop :=
  vs.length = ts.length ∧ ∀ (i : Nat) (v : Value) (t : Tree), vs[i]? = some v → ts[i]? = some t → RepT w ok v t

/-- what the step from one state to the next leaves as it was -/
structure Ext (w : World) (ρ : Env) (bx : Nat → Box) (w' : World) (ρ' : Env) (bx' : Nat → Box) : Prop where
  below : Below 0 w w'
  keep : ∀ b, b < w.heap.size → ¬ Mut ρ bx b → w'.heap[b]? = w.heap[b]?
  mutOld : ∀ b, b < w.heap.size → Mut ρ' bx' b → Mut ρ bx b
  env : ∀ k, (bx k).made → ρ'.β k = ρ.β k ∧ ρ'.hd k = ρ.hd k ∧ (bx' k).made
  A : ρ'.A = ρ.A

theorem RepT.ext {w w' : World} {ok ok' : Nat → Prop} (h : ∀ b, ok b → b < w.heap.size → w'.heap[b]? = w.heap[b]? ∧ ok' b) {v : Value} {t : Tree} (r : RepT w ok v t) : RepT w' ok' v t := by
  induction r with
  | lit v => exact .lit v
  | sl a len cap q f hlen hcap hmax hone hc hr ih =>
    refine .sl a len cap q f hlen hcap hmax hone (fun i j h1 h2 => ?_) (fun i j t h1 h2 => ih i j t h1 h2)
    obtain ⟨ad, ha, hs, hk, hcell⟩ := hc i j h1 h2
    obtain ⟨hh, hk'⟩ := h _ hk (World.block_lt_of_cell? w ⟨ad.block, ad.off + (i * q.sz + j), none⟩ hcell)
    exact ⟨ad, ha, hs, hk', (World.cell?_of_block (a := ⟨ad.block, ad.off + (i * q.sz + j), none⟩) hh).trans hcell⟩

section
variable {w w' : World} {ρ ρ' : Env} {bx bx' : Nat → Box}

theorem Ext.ok (h : Ext w ρ bx w' ρ' bx') : ∀ b, okS ρ bx b → b < w.heap.size → w'.heap[b]? = w.heap[b]? ∧ okS ρ' bx' b :=
  fun b hk hb => ⟨h.keep b hb hk.1, fun hm => hk.1 (h.mutOld b hb hm), by rw [h.A]; exact hk.2⟩

theorem Rep.ext (h : Ext w ρ bx w' ρ' bx') {v : Value} {t : AV} (r : Rep w ρ bx v t) : Rep w' ρ' bx' v t := by
  induction r with
  | lit v => exact .lit v
  | agg vs ts hl _ ih => exact .agg vs ts hl ih
  | tup vs ts hl _ ih => exact .tup vs ts hl ih
  | sl q v r => exact .sl q v (r.ext h.ok)
  | e0 a => exact .e0 a
  | row k v hm hs hv => exact .row k v (h.env k hm).2.2 hs (by rw [hv, (h.env k hm).2.1])
  | ptr k off v hm hv => exact .ptr k off v (h.env k hm).2.2 (by rw [hv, (h.env k hm).1])
  | rp k sz i j v hm hn hv => exact .rp k sz i j v (h.env k hm).2.2 (by rw [(h.env k hm).2.1]; exact hn) (by rw [hv, (h.env k hm).1])
  | ep b o cs j f hc hr =>
    refine .ep b o cs j f (fun i t hi => ?_) (fun i t hi => (hr i t hi).ext h.ok)
    obtain ⟨hk, hcell⟩ := hc i t hi
    obtain ⟨hh, hk'⟩ := h.ok b hk (World.block_lt_of_cell? w ⟨b, o + i, none⟩ hcell)
    exact ⟨hk', (World.cell?_of_block (a := ⟨b, o + i, none⟩) hh).trans hcell⟩
  | clo f vs ts hl _ ih => exact .clo f vs ts hl ih
  | bnd f vs ts hl _ ih => exact .bnd f vs ts hl ih
  | mp k v hm hv => exact .mp k v (h.env k hm).2.2 (by rw [hv, (h.env k hm).1])
  | selfn k v hm hv => exact .selfn k v (h.env k hm).2.2 (by rw [(h.env k hm).1]; exact hv)
  | rowz k v hm hz hv => exact .rowz k v (h.env k hm).2.2 hz (by rw [hv, (h.env k hm).2.1])
  | sd k v hm hv => exact .sd k v (h.env k hm).2.2 (by rw [(h.env k hm).2.1]; exact hv)
  | dead v => exact .dead v

theorem RepL.ext (h : Ext w ρ bx w' ρ' bx') {vs : List Value} {ts : List AV} (r : RepL w ρ bx vs ts) : RepL w' ρ' bx' vs ts :=
  ⟨r.1, fun i v t h1 h2 => (r.2 i v t h1 h2).ext h⟩

theorem Ext.refl : Ext w ρ bx w ρ bx :=
  ⟨Below.refl _ _, fun _ _ _ => rfl, fun _ _ h => h, fun _ h => ⟨rfl, rfl, h⟩, rfl⟩

theorem Ext.trans {w'' : World} {ρ'' : Env} {bx'' : Nat → Box} (h : Ext w ρ bx w' ρ' bx') (h' : Ext w' ρ' bx' w'' ρ'' bx'') : Ext w ρ bx w'' ρ'' bx'' where
  below := h.below.trans h'.below
  keep := fun b hb hm => (h'.keep b (Nat.lt_of_lt_of_le hb h.below.size) (fun hm' => hm (h.mutOld b hb hm'))).trans (h.keep b hb hm)
  mutOld := fun b hb hm => h.mutOld b hb (h'.mutOld b (Nat.lt_of_lt_of_le hb h.below.size) hm)
  env := fun k hk => by
    obtain ⟨a, b, c⟩ := h.env k hk
    obtain ⟨a', b', c'⟩ := h'.env k c
    exact ⟨a'.trans a, b'.trans b, c'⟩
  A := h'.A.trans h.A
end

/-- the cells of a row -/
structure RowRep (w : World) (ok : Nat → Prop) (xs : List Value) (q : Row) : Prop where
  one : ∀ v, v ∈ xs → v.oneCell' = true
  rep : ∀ (i j : Nat) (t : Tree) (v : Value), i < q.n → (q.g i)[j]? = some t → xs[i * q.sz + j]? = some v → RepT w ok v t
theorem RowRep.ext {w w' : World} {ok ok' : Nat → Prop} (h : ∀ b, ok b → b < w.heap.size → w'.heap[b]? = w.heap[b]? ∧ ok' b) {xs : List Value} {q : Row} (r : RowRep w ok xs q) : RowRep w' ok' xs q :=
  ⟨r.one, fun i j t v h1 h2 h3 => (r.rep i j t v h1 h2 h3).ext h⟩

/-- the row that a slice's head alone reaches -/
def ownsR (w : World) (F : Nat → Prop) (e sz : Nat) (v : Value) (n : Nat) (xs : List Value) : Prop :=
  xs.length = n * sz ∧
  ((∃ a, v = .slice a 0 0 ∧ n = 0) ∨
   ∃ g cap cur, v = .slice (some ⟨g, 0, none⟩) n (cap + 1) ∧ F g ∧ w.heap[g]? = some (.cells cur e (0, 0)) ∧ n ≤ cap + 1 ∧ cap + 1 ≤ maxLen ∧ cur.size = (cap + 1) * sz ∧ cur.toList.take (n * sz) = xs)

/-- the value of a key -/
def lookE (kd : IntKind) (z : Int) : List MapEntry → Option Value
  | [] => none
  | en :: es => match en.key with
    | .int k' z' => if k' = kd ∧ z' = z then some en.val else lookE kd z es
    | _ => lookE kd z es
/-- a value of a type as an element of a map -/
def ValIs (w : World) (ok : Nat → Prop) (e : Sig.TI) (v : Value) (x : Sig.Car e) : Prop :=
  RepTL w ok v.cells.toList (Sig.enc e x) ∧ ((Sig.isAgg e = true ∧ ∃ vs : List Value, v = .agg ⟨vs⟩) ∨ (Sig.isAgg e = false ∧ v.oneCell' = true))
def EntIs (w : World) (ok : Nat → Prop) (e : Sig.TI) : Option Value → Option (Sig.Car e) → Prop
  | some v, some x => ValIs w ok e v x
  | none, none => True
  | _, _ => False
/-- the boxes as they lie in the world -/
def SimBox (w : World) (ρ : Env) (bx : Nat → Box) (k : Nat) : Box → Prop
  | .var ty cs => ∃ vs : List Value, w.heap[ρ.β k]? = some (.cells ⟨vs⟩ ty (0, 0)) ∧ RepL w ρ bx vs cs
  | .row full e q => ∃ xs : List Value, ownsR w ρ.A e q.sz (ρ.hd k) q.n xs ∧ RowRep w (okS ρ bx) xs q ∧ (∀ b, ownB (ρ.hd k) = some b → ρ.β k = b) ∧ (full = true → ∀ a n c, ρ.hd k = .slice a n c → c = n)
  | .frz e q => ∃ xs : List Value, ownsR w ρ.A e q.sz (ρ.hd k) q.n xs ∧ RowRep w (okS ρ bx) xs q ∧ (∀ b, ownB (ρ.hd k) = some b → ρ.β k = b ∧ ¬ Mut ρ bx b)
  | .map kd e f => ∃ (es : Array MapEntry) (clock : Nat), w.heap[ρ.β k]? = some (.map es clock) ∧ (∀ en, en ∈ es.toList → ∃ z, en.key = .int kd z) ∧ ∀ z, EntIs w (okS ρ bx) e (lookE kd z es.toList) (f z)
  | .tab ts => ∃ (es : Array MapEntry) (clock : Nat), w.heap[ρ.β k]? = some (.map es clock) ∧ es.toList.map (·.key) = ts.map (fun p => .string p.1) ∧ RepL w ρ bx (es.toList.map (·.val)) (ts.map (·.2))
  | .iter s p => w.heap[ρ.β k]? = some (.stringIter s p)
  | .gone => True
  | .nil => True

/-- a package variable of plain data as it lies in the world -/
def GRow (w : World) (g : Nat) (q : Row) : Prop :=
  (∀ (i j : Nat) (t : Tree), i < q.n → (q.g i)[j]? = some t → ∃ v, t = .lit v ∧ w.cell? ⟨g, i * q.sz + j, none⟩ = some v) ∧ ∃ cs ty sh, w.heap[g]? = some (.cells cs ty sh) ∧ cs.size = q.n * q.sz
def GlobOk (w : World) (ρ : Env) (bx : Nat → Box) : Prop :=
  ∀ g q, Sig.glob g = some q → g < w.heap.size ∧ okS ρ bx g ∧ GRow w g q
theorem GlobOk.ext {w w' : World} {ρ ρ' : Env} {bx bx' : Nat → Box} (hb : w.heap.size ≤ w'.heap.size) (hk : ∀ b, okS ρ bx b → b < w.heap.size → w'.heap[b]? = w.heap[b]? ∧ okS ρ' bx' b) (h : GlobOk w ρ bx) : GlobOk w' ρ' bx' := by
  intro g q hg
  obtain ⟨h1, h2, h3⟩ := h g q hg
  obtain ⟨h4, h5⟩ := hk g h2 h1
  refine ⟨Nat.lt_of_lt_of_le h1 hb, h5, fun i j t hi ht => ?_, by rw [h4]; exact h3.2⟩
  obtain ⟨v, hv, hc⟩ := h3.1 i j t hi ht
  exact ⟨v, hv, (World.cell?_of_block (a := ⟨g, i * q.sz + j, none⟩) h4).trans hc⟩
structure SimB (w : World) (ρ : Env) (bx : Nat → Box) : Prop where
  base : ∀ b, w.heap.size ≤ b → ρ.A b
  box : ∀ k, SimBox w ρ bx k (bx k)
  inj : ∀ k k' b, own ρ bx k = some b → own ρ bx k' = some b → k = k'
  glob : GlobOk w ρ bx

omit [Sig] in
theorem ownsR.lt {w : World} {F : Nat → Prop} {e sz : Nat} {v : Value} {n : Nat} {xs : List Value} (h : ownsR w F e sz v n xs) {b : Nat} (hb : ownB v = some b) : F b ∧ b < w.heap.size := by
  rcases h.2 with ⟨a, rfl, _⟩ | ⟨g, cap, cur, rfl, h1, h2, _⟩
  · cases a <;> cases hb
  · simp only [ownB, Option.some.injEq] at hb
    subst hb
    exact ⟨h1, (Array.getElem?_eq_some_iff.1 h2).1⟩
omit [Sig] in
theorem ownsR.ext {w w' : World} {F : Nat → Prop} {e sz : Nat} {v : Value} {n : Nat} {xs : List Value} (h : ownsR w F e sz v n xs) (hk : ∀ b, ownB v = some b → w'.heap[b]? = w.heap[b]?) : ownsR w' F e sz v n xs := by
  refine ⟨h.1, ?_⟩
  rcases h.2 with h | ⟨g, cap, cur, rfl, h1, h2, h3⟩
  · exact .inl h
  · exact .inr ⟨g, cap, cur, rfl, h1, by rw [hk g rfl]; exact h2, h3⟩

theorem SimB.own_lt {w : World} {ρ : Env} {bx : Nat → Box} (h : SimB w ρ bx) {k b : Nat} (ho : own ρ bx k = some b) : b < w.heap.size := by
  have hb := h.box k
  unfold own at ho
  cases hk : bx k with
  | var ty cs =>
    rw [hk] at hb ho
    obtain ⟨vs, h2, _⟩ := hb
    injection ho with ho
    subst ho
    exact (Array.getElem?_eq_some_iff.1 h2).1
  | row full e q =>
    rw [hk] at hb ho
    obtain ⟨xs, h1, _⟩ := hb
    exact (h1.lt ho).2
  | frz e q => rw [hk] at ho; cases ho
  | map kd e f =>
    rw [hk] at hb ho
    obtain ⟨es, cl, h2, _⟩ := hb
    injection ho with ho
    subst ho
    exact (Array.getElem?_eq_some_iff.1 h2).1
  | tab ts =>
    rw [hk] at hb ho
    obtain ⟨es, cl, h2, _⟩ := hb
    injection ho with ho
    subst ho
    exact (Array.getElem?_eq_some_iff.1 h2).1
  | iter s p =>
    rw [hk] at hb ho
    have h2 : w.heap[ρ.β k]? = some (.stringIter s p) := hb
    injection ho with ho
    subst ho
    exact (Array.getElem?_eq_some_iff.1 h2).1
  | gone => rw [hk] at ho; cases ho
  | nil => rw [hk] at ho; cases ho

theorem SimB.mut_lt {w : World} {ρ : Env} {bx : Nat → Box} (h : SimB w ρ bx) {b : Nat} (ho : Mut ρ bx b) : b < w.heap.size := by
  obtain ⟨k, hk⟩ := ho
  exact h.own_lt hk

theorem RepTL.ext {w w' : World} {ok ok' : Nat → Prop} (h : ∀ b, ok b → b < w.heap.size → w'.heap[b]? = w.heap[b]? ∧ ok' b) {vs : List Value} {ts : List Tree} (r : RepTL w ok vs ts) : RepTL w' ok' vs ts :=
  ⟨r.1, fun i v t h1 h2 => (r.2 i v t h1 h2).ext h⟩

theorem EntIs.ext {w w' : World} {ok ok' : Nat → Prop} (h : ∀ b, ok b → b < w.heap.size → w'.heap[b]? = w.heap[b]? ∧ ok' b) {e : Sig.TI} {v : Option Value} {x : Option (Sig.Car e)} (r : EntIs w ok e v x) : EntIs w' ok' e v x := by
  cases v <;> cases x <;> first | exact r | exact ⟨r.1.ext h, r.2⟩
/-- a box whose own block has not changed -/
theorem SimBox.ext {w w' : World} {ρ ρ' : Env} {bx bx' : Nat → Box} {k : Nat} {b : Box} (h : Ext w ρ bx w' ρ' bx') (hb : SimBox w ρ bx k b) (hbk : bx k = b) (hm : b.made)
    (hown : ∀ c, own ρ bx k = some c → w'.heap[c]? = w.heap[c]?) : SimBox w' ρ' bx' k b := by
  obtain ⟨e1, e2, _⟩ := h.env k (by rw [hbk]; exact hm)
  cases b with
  | var ty cs =>
    obtain ⟨vs, h2, h3⟩ := hb
    refine ⟨vs, ?_, h3.ext h⟩
    rw [e1, hown (ρ.β k) (by simp [own, hbk])]
    exact h2
  | row full e q =>
    obtain ⟨xs, h1, h2, h3, h4⟩ := hb
    refine ⟨xs, ?_, h2.ext h.ok, by rw [e1, e2]; exact h3, by rw [e2]; exact h4⟩
    rw [e2, h.A]
    exact h1.ext fun c hc => hown c (by simp [own, hbk, hc])
  | frz e q =>
    obtain ⟨xs, h1, h2, h3⟩ := hb
    refine ⟨xs, ?_, h2.ext h.ok, fun c hc => ?_⟩
    · rw [e2, h.A]
      exact h1.ext fun c hc => h.keep c (h1.lt hc).2 (h3 c hc).2
    · rw [e2] at hc
      exact ⟨by rw [e1]; exact (h3 c hc).1, fun hm' => (h3 c hc).2 (h.mutOld c (h1.lt hc).2 hm')⟩
  | map kd e f =>
    obtain ⟨es, cl, h2, h3, h4⟩ := hb
    refine ⟨es, cl, ?_, h3, fun z => (h4 z).ext h.ok⟩
    rw [e1, hown (ρ.β k) (by simp [own, hbk])]
    exact h2
  | tab ts =>
    obtain ⟨es, cl, h2, h3, h4⟩ := hb
    refine ⟨es, cl, ?_, h3, h4.ext h⟩
    rw [e1, hown (ρ.β k) (by simp [own, hbk])]
    exact h2
  | iter s p =>
    have h2 : w.heap[ρ.β k]? = some (.stringIter s p) := hb
    show w'.heap[ρ'.β k]? = some (.stringIter s p)
    rw [e1, hown (ρ.β k) (by simp [own, hbk])]
    exact h2
  | gone => trivial
  | nil => exact hm.elim

/-- the world changes, no box does -/
theorem Ext.world {w w' : World} {ρ : Env} {bx : Nat → Box} (hb : Below w.heap.size w w') : Ext w ρ bx w' ρ bx where
  below := hb.mono (Nat.zero_le _)
  keep := fun b hlt _ => hb.block b hlt
  mutOld := fun _ _ h => h
  env := fun _ h => ⟨rfl, rfl, h⟩
  A := rfl
theorem SimB.world {w w' : World} {ρ : Env} {bx : Nat → Box} (h : SimB w ρ bx) (hb : Below w.heap.size w w') : SimB w' ρ bx where
  base := fun b hb' => h.base b (Nat.le_trans hb.size hb')
  box := fun k => by
    by_cases hm : (bx k).made
    · exact SimBox.ext (Ext.world hb) (h.box k) rfl hm fun c hc => hb.block c (h.own_lt hc)
    · cases hk : bx k <;> rw [hk] at hm <;> first | exact absurd trivial hm | trivial
  inj := h.inj
  glob := h.glob.ext hb.size (Ext.world hb).ok
end
end Go.Cm
