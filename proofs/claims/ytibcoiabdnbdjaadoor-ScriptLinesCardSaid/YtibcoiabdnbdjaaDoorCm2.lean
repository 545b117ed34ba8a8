/- The abstract machine, third state, part 2: new boxes and writes to boxes in the world, and what it means that one operation is met. No condition. -/
import Derived.Test.YtibcoiabdnbdjaaDoorCm1
import Derived.Laws.CopyRow
import Derived.Laws.CopyOwn
namespace Go.Cm
open Go.RowKit

variable [Sig]
/-- boxes: the newest state of each stands first -/
abbrev Bxs := List (Nat × Box)
def bget : Bxs → Nat → Box
  | [], _ => .nil
  | (j, b) :: r, k => if j = k then b else bget r k
def setBox (bx : Nat → Box) (k : Nat) (b : Box) : Nat → Box := fun j => if j = k then b else bx j
def appE (bx : Nat → Box) : List (Nat × Box) → (Nat → Box)
  | [] => bx
  | (k, b) :: r => appE (setBox bx k b) r
theorem bget_setBox (bx : Nat → Box) (k j : Nat) (b : Box) : setBox bx k b j = if j = k then b else bx j := rfl
def appL (bx : Bxs) : List (Nat × Box) → Bxs
  | [] => bx
  | (k, b) :: r => appL ((k, b) :: bx) r
theorem bget_cons (bx : Bxs) (k : Nat) (b : Box) : bget ((k, b) :: bx) = setBox (bget bx) k b := by
  funext j
  simp only [bget, setBox]
  by_cases h : k = j
  · rw [if_pos h, if_pos h.symm]
  · rw [if_neg h, if_neg (Ne.symm h)]
theorem bget_appL : ∀ (e : List (Nat × Box)) (bx : Bxs), bget (appL bx e) = appE (bget bx) e
  | [], _ => rfl
  | (k, b) :: e, bx => by simp only [appL, appE]; rw [bget_appL e, bget_cons]

def AV.one : AV → Bool
  | .lit v => v.oneCell'
  | .agg _ => false
  | .tup _ => false
  | .dead => false
  | _ => true
def cellsA : AV → List AV
  | .agg cs => cs
  | t => [t]
def AV.fit : AV → Bool
  | .agg cs => cs.all AV.one
  | t => t.one
def ofV1 : Value → AV
  | .slice none 0 0 => .e0
  | .func (.func f) ⟨[]⟩ ⟨[]⟩ => .clo f []
  | v => .lit v
def ofV : Value → AV
  | .agg cs => .agg (cs.toList.map ofV1)
  | v => ofV1 v
def ofTree : Tree → AV
  | .lit v => .lit v
  | .sl q => .sl q

section
variable {w : World} {ρ : Env} {bx : Nat → Box}

theorem Rep.isOne {v : Value} {t : AV} (r : Rep w ρ bx v t) (h : t.one = true) : v.oneCell' = true := by
  cases r with
  | lit => exact h
  | agg | tup | dead => cases h
  | sl q v r => cases r; rfl
  | e0 => rfl
  | row k v hm hs hv => obtain ⟨a, n, c, rfl⟩ := hs; rfl
  | ptr k off v hm hv => rw [hv]; rfl
  | rp k sz i j v hm hn hv => rw [hv]; rfl
  | ep => rfl
  | clo => rfl
  | bnd => rfl
  | mp k v hm hv => rw [hv]; rfl
  | selfn k v hm hv => rcases hv with rfl | rfl <;> rfl
  | rowz k v hm hz hv => rcases hz with rfl | ⟨_, _, _, rfl⟩ <;> rfl
  | sd k v hm hv => obtain ⟨_, _, _, _, _, rfl, _⟩ := hv; rfl
omit [Sig] in
theorem cells_of_one {v : Value} (h : v.oneCell' = true) : v.cells.toList = [v] := by
  cases v <;> first | rfl | cases h

theorem Rep.cells {v : Value} {t : AV} (r : Rep w ρ bx v t) (h : t.fit = true) : RepL w ρ bx v.cells.toList (cellsA t) ∧ ∀ u, u ∈ v.cells.toList → u.oneCell' = true := by
  by_cases ha : ∃ cs, t = .agg cs
  · obtain ⟨cs, rfl⟩ := ha
    cases r with
    | agg vs ts hl hr =>
      refine ⟨⟨hl, hr⟩, fun u hu => ?_⟩
      obtain ⟨i, hi, rfl⟩ := List.mem_iff_getElem.1 hu
      have hi' : i < vs.length := hi
      have h' := hr i vs[i] cs[i] (List.getElem?_eq_getElem hi') (List.getElem?_eq_getElem (by omega))
      exact h'.isOne (List.all_eq_true.1 h _ (List.getElem_mem _))
  · have ho : t.one = true := by cases t <;> first | exact h | exact absurd ⟨_, rfl⟩ ha
    have hc : cellsA t = [t] := by cases t <;> first | rfl | exact absurd ⟨_, rfl⟩ ha
    have h1 := r.isOne ho
    rw [cells_of_one h1, hc]
    refine ⟨⟨rfl, fun i v' t' h2 h3 => ?_⟩, fun u hu => by simp at hu; rw [hu]; exact h1⟩
    match i, h2, h3 with
    | 0, h2, h3 => simp at h2 h3; subst h2; subst h3; exact r
    | i + 1, h2, _ => simp at h2

theorem Rep_ofV1 (v : Value) : Rep w ρ bx v (ofV1 v) := by
  unfold ofV1
  split
  · exact .e0 _
  · exact .clo _ [] [] rfl (fun i v t h1 => by simp at h1)
  · exact .lit _
theorem Rep_ofV (v : Value) : Rep w ρ bx v (ofV v) := by
  unfold ofV
  split
  · rename_i cs
    refine .agg cs.toList _ (by simp) fun i v t h1 h2 => ?_
    simp only [List.getElem?_map, h1, Option.map_some, Option.some.injEq] at h2
    subst h2
    exact Rep_ofV1 v
  · exact Rep_ofV1 v
theorem Rep_ofTree {v : Value} {t : Tree} (r : RepT w (okS ρ bx) v t) : Rep w ρ bx v (ofTree t) := by
  cases t with
  | lit v' => cases r; exact .lit _
  | sl q => exact .sl q v r

theorem Rep.inv_lit {v v' : Value} (h : Rep w ρ bx v (.lit v')) : v = v' := by cases h; rfl
theorem Rep.inv_ptr {v : Value} {k off : Nat} (h : Rep w ρ bx v (.ptr k off)) : (bx k).made ∧ v = .pointer (some ⟨ρ.β k, off, none⟩) := by
  cases h with
  | ptr _ _ _ hm hv => exact ⟨hm, hv⟩
theorem Rep.inv_rp {v : Value} {k sz i j : Nat} (h : Rep w ρ bx v (.rp k sz i j)) : (bx k).made ∧ v = .pointer (some ⟨ρ.β k, i * sz + j, none⟩) := by
  cases h with
  | rp _ _ _ _ _ hm hn hv => exact ⟨hm, hv⟩
theorem Rep.inv_rpn {v : Value} {k sz i j : Nat} (h : Rep w ρ bx v (.rp k sz i j)) : ∃ a n c, ρ.hd k = .slice a n c ∧ i < n := by
  cases h with
  | rp _ _ _ _ _ hm hn hv => exact hn
theorem Rep.inv_row {v : Value} {k : Nat} (h : Rep w ρ bx v (.row k)) : (bx k).made ∧ v = ρ.hd k := by
  cases h with
  | row _ _ hm _ hv => exact ⟨hm, hv⟩
theorem Rep.inv_agg {v : Value} {ts : List AV} (h : Rep w ρ bx v (.agg ts)) : ∃ vs : List Value, v = .agg ⟨vs⟩ ∧ RepL w ρ bx vs ts := by
  cases h with
  | agg vs _ hl hr => exact ⟨vs, rfl, hl, hr⟩
theorem Rep.inv_tup {v : Value} {ts : List AV} (h : Rep w ρ bx v (.tup ts)) : ∃ vs : List Value, v = .tuple ⟨vs⟩ ∧ RepL w ρ bx vs ts := by
  cases h with
  | tup vs _ hl hr => exact ⟨vs, rfl, hl, hr⟩
theorem Rep.inv_bnd {v : Value} {f : FuncId} {ts : List AV} (h : Rep w ρ bx v (.bnd f ts)) : ∃ vs : List Value, v = .func (.func f) ⟨vs⟩ #[] ∧ RepL w ρ bx vs ts := by
  cases h with
  | bnd _ vs _ hl hr => exact ⟨vs, rfl, hl, hr⟩
theorem Rep.inv_clo {v : Value} {f : FuncId} {ts : List AV} (h : Rep w ρ bx v (.clo f ts)) : ∃ vs : List Value, v = .func (.func f) #[] ⟨vs⟩ ∧ RepL w ρ bx vs ts := by
  cases h with
  | clo _ vs _ hl hr => exact ⟨vs, rfl, hl, hr⟩
theorem Rep.inv_sl {v : Value} {q : Row} (h : Rep w ρ bx v (.sl q)) : RepT w (okS ρ bx) v (.sl q) := by
  cases h with
  | sl _ _ hr => exact hr
theorem Rep.inv_e0 {v : Value} (h : Rep w ρ bx v .e0) : ∃ a, v = .slice a 0 0 := by
  cases h with
  | e0 a => exact ⟨a, rfl⟩
theorem Rep.inv_ep {v : Value} {cs : List Tree} {j : Nat} (h : Rep w ρ bx v (.ep cs j)) : ∃ (b o : Nat) (f : Nat → Value), v = .pointer (some ⟨b, o + j, none⟩) ∧
    (∀ (i : Nat) (t : Tree), cs[i]? = some t → okS ρ bx b ∧ w.cell? ⟨b, o + i, none⟩ = some (f i)) ∧ ∀ (i : Nat) (t : Tree), cs[i]? = some t → RepT w (okS ρ bx) (f i) t := by
  cases h with
  | ep b o _ _ f hc hr => exact ⟨b, o, f, rfl, hc, hr⟩
theorem Rep.inv_selfn {v : Value} {k : Nat} (h : Rep w ρ bx v (.selfn k)) : (bx k).made ∧ (v = .pointer none ∨ v = .pointer (some ⟨ρ.β k, 0, none⟩)) := by
  cases h with
  | selfn _ _ hm hv => exact ⟨hm, hv⟩
theorem Rep.inv_rowz {v : Value} {k : Nat} (h : Rep w ρ bx v (.rowz k)) : NZ v ∧ Rep w ρ bx v (.row k) := by
  cases h with
  | rowz _ _ hm hz hv =>
    refine ⟨hz, .row k v hm ?_ hv⟩
    rcases hz with rfl | ⟨_, _, _, rfl⟩
    · exact ⟨_, _, _, rfl⟩
    · exact ⟨_, _, _, rfl⟩
theorem Rep.mkRowz {v : Value} {k : Nat} (h : Rep w ρ bx v (.row k)) (hz : NZ v) : Rep w ρ bx v (.rowz k) := by
  cases h with
  | row _ _ hm _ hv => exact .rowz k v hm hz hv
theorem Rep.inv_sd {v : Value} {k : Nat} (h : Rep w ρ bx v (.sd k)) : (bx k).made ∧ SDof (ρ.hd k) v := by
  cases h with
  | sd _ _ hm hv => exact ⟨hm, hv⟩
theorem Rep.inv_mp {v : Value} {k : Nat} (h : Rep w ρ bx v (.mp k)) : (bx k).made ∧ v = .map (some (ρ.β k)) := by
  cases h with
  | mp _ _ hm hv => exact ⟨hm, hv⟩

/-- own blocks of the boxes but for k -/
theorem own_other {ρ ρ' : Env} {bx bx' : Nat → Box} {j : Nat} (hb : bx' j = bx j) (hβ : ρ'.β j = ρ.β j) (hh : ρ'.hd j = ρ.hd j) : own ρ' bx' j = own ρ bx j := by
  unfold own
  rw [hb, hβ, hh]

/-- boxes change, or stay with their blocks -/
theorem SimB.upd (h : SimB w ρ bx) {w' : World} {ρ' : Env} {bx' : Nat → Box} (hext : Ext w ρ bx w' ρ' bx')
    (hbox : ∀ k, (bx' k = bx k ∧ ∀ c, own ρ bx k = some c → w'.heap[c]? = w.heap[c]?) ∨ SimBox w' ρ' bx' k (bx' k))
    (hinj : ∀ k k' b, own ρ' bx' k = some b → own ρ' bx' k' = some b → k = k') : SimB w' ρ' bx' where
  base := fun b hb => by rw [hext.A]; exact h.base b (Nat.le_trans hext.below.size hb)
  box := fun k => by
    rcases hbox k with ⟨h1, h2⟩ | h1
    · rw [h1]
      by_cases hm : (bx k).made
      · exact SimBox.ext hext (h.box k) rfl hm h2
      · cases hb : bx k <;> rw [hb] at hm <;> first | exact absurd trivial hm | trivial
    · exact h1
  inj := hinj
  glob := h.glob.ext hext.below.size hext.ok

/-- a new box of cells -/
theorem SimB.push (h : SimB w ρ bx) {k : Nat} (hk : bx k = .nil) (ty : TypeId) {vs : List Value} {cs : List AV} (hr : RepL w ρ bx vs cs) :
    ∃ ρ' : Env, ρ'.β k = w.heap.size ∧ Ext w ρ bx (w.alloc (.cells ⟨vs⟩ ty)) ρ' (setBox bx k (.var ty cs)) ∧ SimB (w.alloc (.cells ⟨vs⟩ ty)) ρ' (setBox bx k (.var ty cs)) := by
  let ρ' : Env := ⟨fun j => if j = k then w.heap.size else ρ.β j, ρ.hd, ρ.A⟩
  have hβ : ∀ j, j ≠ k → ρ'.β j = ρ.β j := fun j hj => if_neg hj
  have hβk : ρ'.β k = w.heap.size := if_pos rfl
  have hbo : ∀ j, j ≠ k → (setBox bx k (.var ty cs)) j = bx j := fun j hj => by rw [bget_setBox, if_neg hj]
  have hbk : (setBox bx k (.var ty cs)) k = .var ty cs := by rw [bget_setBox, if_pos rfl]
  have hoo : ∀ j, j ≠ k → own ρ' (setBox bx k (.var ty cs)) j = own ρ bx j := fun j hj => own_other (hbo j hj) (hβ j hj) rfl
  have hok : own ρ' (setBox bx k (.var ty cs)) k = some w.heap.size := by unfold own; rw [hbk, hβk]
  have hext : Ext w ρ bx (w.alloc (.cells ⟨vs⟩ ty)) ρ' (setBox bx k (.var ty cs)) := {
    below := (Below.refl _ _).alloc (Nat.zero_le _) _
    keep := fun b hb _ => Below.heap_alloc w _ b hb
    mutOld := fun b hb ⟨j, hj⟩ => by
      by_cases hjk : j = k
      · subst hjk; rw [hok] at hj; injection hj with hj; omega
      · rw [hoo j hjk] at hj; exact ⟨j, hj⟩
    env := fun j hm => by
      have hjk : j ≠ k := fun e => by subst e; rw [hk] at hm; exact hm
      exact ⟨hβ j hjk, rfl, by rw [hbo j hjk]; exact hm⟩
    A := rfl }
  refine ⟨ρ', hβk, hext, h.upd hext (fun j => ?_) (fun j j' b h1 h2 => ?_)⟩
  · by_cases hjk : j = k
    · subst hjk
      rw [hbk]
      exact .inr ⟨vs, by rw [hβk]; exact heap_alloc_new w _, hr.ext hext⟩
    · exact .inl ⟨hbo j hjk, fun c hc => Below.heap_alloc w _ c (h.own_lt hc)⟩
  · by_cases hj : j = k <;> by_cases hj' : j' = k
    · rw [hj, hj']
    · subst hj; rw [hok] at h1; rw [hoo j' hj'] at h2; injection h1 with h1; have := h.own_lt h2; omega
    · subst hj'; rw [hok] at h2; rw [hoo j hj] at h1; injection h2 with h2; have := h.own_lt h1; omega
    · rw [hoo j hj] at h1; rw [hoo j' hj'] at h2; exact h.inj j j' b h1 h2

/-- a box of cells gets other cells -/
theorem SimB.write (h : SimB w ρ bx) {k : Nat} {ty : TypeId} {cs0 : List AV} (hk : bx k = .var ty cs0) {vs : List Value} {cs : List AV} (hr : RepL w ρ bx vs cs) :
    Ext w ρ bx (w.setRow (ρ.β k) ⟨vs⟩) ρ (setBox bx k (.var ty cs)) ∧ SimB (w.setRow (ρ.β k) ⟨vs⟩) ρ (setBox bx k (.var ty cs)) := by
  have hbo : ∀ j, j ≠ k → (setBox bx k (.var ty cs)) j = bx j := fun j hj => by rw [bget_setBox, if_neg hj]
  have hbk : (setBox bx k (.var ty cs)) k = .var ty cs := by rw [bget_setBox, if_pos rfl]
  have hoo : ∀ j, own ρ (setBox bx k (.var ty cs)) j = own ρ bx j := fun j => by
    by_cases hj : j = k
    · subst hj; unfold own; rw [hbk, hk]
    · exact own_other (hbo j hj) rfl rfl
  have hko : own ρ bx k = some (ρ.β k) := by unfold own; rw [hk]
  have hsim := h.box k
  rw [hk] at hsim
  obtain ⟨vs0, h2, h3⟩ := hsim
  have hext : Ext w ρ bx (w.setRow (ρ.β k) ⟨vs⟩) ρ (setBox bx k (.var ty cs)) := {
    below := below_setRow (Below.refl _ _) (Nat.zero_le _) _
    keep := fun b hb hm => setRow_other w _ b _ (fun e => hm ⟨k, by rw [hko, e]⟩)
    mutOld := fun b hb ⟨j, hj⟩ => ⟨j, by rw [← hoo j]; exact hj⟩
    env := fun j hm => ⟨rfl, rfl, by
      by_cases hj : j = k
      · subst hj; rw [hbk]; trivial
      · rw [hbo j hj]; exact hm⟩
    A := rfl }
  refine ⟨hext, h.upd hext (fun j => ?_) (fun j j' b e1 e2 => ?_)⟩
  · by_cases hjk : j = k
    · subst hjk
      rw [hbk]
      exact .inr ⟨vs, setRow_heap w _ _ _ _ _ h2, hr.ext hext⟩
    · exact .inl ⟨hbo j hjk, fun c hc => setRow_other w _ c _ (fun e => hjk (h.inj j k c hc (by rw [hko, e])))⟩
  · rw [hoo] at e1 e2; exact h.inj j j' b e1 e2

/-- the cells of an own row change in place -/
theorem SimB.setRow (h : SimB w ρ bx) {k : Nat} {full : Bool} {e : Nat} {q q' : Row} (hk : bx k = .row full e q) (hn : q'.n = q.n) (hz : q'.sz = q.sz) {b cap : Nat} {cur cur' : List Value} (hv : ρ.hd k = .slice (some ⟨b, 0, none⟩) q.n (cap + 1))
    (hb : w.heap[b]? = some (.cells ⟨cur⟩ e (0, 0))) (hl : cur'.length = cur.length) (hr : RowRep w (okS ρ bx) (cur'.take (q.n * q.sz)) q') :
    Ext w ρ bx (w.setRow b ⟨cur'⟩) ρ (setBox bx k (.row full e q')) ∧ SimB (w.setRow b ⟨cur'⟩) ρ (setBox bx k (.row full e q')) := by
  have hbo : ∀ j, j ≠ k → (setBox bx k (.row full e q')) j = bx j := fun j hj => by rw [bget_setBox, if_neg hj]
  have hbk : (setBox bx k (.row full e q')) k = .row full e q' := by rw [bget_setBox, if_pos rfl]
  have hoo : ∀ j, own ρ (setBox bx k (.row full e q')) j = own ρ bx j := fun j => by
    by_cases hj : j = k
    · subst hj; unfold own; rw [hbk, hk]
    · exact own_other (hbo j hj) rfl rfl
  have hko : own ρ bx k = some b := by unfold own; rw [hk, hv]; rfl
  have hsim := h.box k
  rw [hk] at hsim
  obtain ⟨xs, h1, h2, h3, h4⟩ := hsim
  have hext : Ext w ρ bx (w.setRow b ⟨cur'⟩) ρ (setBox bx k (.row full e q')) := {
    below := below_setRow (Below.refl _ _) (Nat.zero_le _) _
    keep := fun c hb hm => setRow_other w _ c _ (fun e => hm ⟨k, by rw [hko, e]⟩)
    mutOld := fun b hb ⟨j, hj⟩ => ⟨j, by rw [← hoo j]; exact hj⟩
    env := fun j hm => ⟨rfl, rfl, by
      by_cases hj : j = k
      · subst hj; rw [hbk]; trivial
      · rw [hbo j hj]; exact hm⟩
    A := rfl }
  refine ⟨hext, h.upd hext (fun j => ?_) (fun j j' b e1 e2 => ?_)⟩
  · by_cases hjk : j = k
    · subst hjk
      rw [hbk]
      obtain ⟨hx, ho⟩ := h1
      rcases ho with ⟨a, e1, _⟩ | ⟨g, c, cu, e1, e2, e3, e4, e5, e6, e7⟩
      · rw [e1] at hv; injection hv with _ _ e; cases e
      · rw [e1] at hv
        injection hv with e8 e9 e10
        injection e8 with e8
        injection e8 with e8
        injection e10 with e10
        subst e8; subst e10
        rw [hb] at e3
        injection e3 with e3
        injection e3 with e3
        subst e3
        have hcl : cur.length = (c + 1) * q.sz := by simpa using e6
        refine .inr ⟨cur'.take (q.n * q.sz), ⟨?_, .inr ⟨g, c, ⟨cur'⟩, by rw [e1, hn], e2, setRow_heap w _ _ _ _ _ hb, by rw [hn]; exact e4, e5, by simp [hl, hcl, hz], by rw [hn, hz]⟩⟩, hr.ext hext.ok, h3, h4⟩
        rw [List.length_take, hn, hz, hl, hcl]
        exact Nat.min_eq_left (Nat.mul_le_mul_right _ e4)
    · exact .inl ⟨hbo j hjk, fun c hc => setRow_other w _ c _ (fun e => hjk (h.inj j k c hc (by rw [hko, e])))⟩
  · rw [hoo] at e1 e2; exact h.inj j j' b e1 e2

/-- an own row is frozen -/
theorem SimB.freeze (h : SimB w ρ bx) {k : Nat} {full : Bool} {e : Nat} {q : Row} (hk : bx k = .row full e q) :
    Ext w ρ bx w ρ (setBox bx k (.frz e q)) ∧ SimB w ρ (setBox bx k (.frz e q)) := by
  have hbo : ∀ j, j ≠ k → (setBox bx k (.frz e q)) j = bx j := fun j hj => by rw [bget_setBox, if_neg hj]
  have hbk : (setBox bx k (.frz e q)) k = .frz e q := by rw [bget_setBox, if_pos rfl]
  have hoo : ∀ j, j ≠ k → own ρ (setBox bx k (.frz e q)) j = own ρ bx j := fun j hj => own_other (hbo j hj) rfl rfl
  have hok : own ρ (setBox bx k (.frz e q)) k = none := by unfold own; rw [hbk]
  have hsub : ∀ b, Mut ρ (setBox bx k (.frz e q)) b → Mut ρ bx b := fun b ⟨j, hj⟩ => by
    by_cases hjk : j = k
    · subst hjk; rw [hok] at hj; cases hj
    · exact ⟨j, by rw [← hoo j hjk]; exact hj⟩
  have hext : Ext w ρ bx w ρ (setBox bx k (.frz e q)) := {
    below := Below.refl _ _
    keep := fun _ _ _ => rfl
    mutOld := fun b _ hm => hsub b hm
    env := fun j hm => ⟨rfl, rfl, by
      by_cases hj : j = k
      · subst hj; rw [hbk]; trivial
      · rw [hbo j hj]; exact hm⟩
    A := rfl }
  refine ⟨hext, h.upd hext (fun j => ?_) (fun j j' b e1 e2 => ?_)⟩
  · by_cases hjk : j = k
    · subst hjk
      rw [hbk]
      have hs := h.box j
      rw [hk] at hs
      obtain ⟨xs, h1, h2, h3, h4⟩ := hs
      refine .inr ⟨xs, h1, h2.ext hext.ok, fun b hb => ⟨h3 b hb, fun ⟨i, hi⟩ => ?_⟩⟩
      by_cases hij : i = j
      · subst hij; rw [hok] at hi; cases hi
      · rw [hoo i hij] at hi
        exact hij (h.inj i j b hi (by unfold own; rw [hk]; exact hb))
    · exact .inl ⟨hbo j hjk, fun _ _ => rfl⟩
  · have n1 : j ≠ k := fun e => by subst e; rw [hok] at e1; cases e1
    have n2 : j' ≠ k := fun e => by subst e; rw [hok] at e2; cases e2
    rw [hoo j n1] at e1; rw [hoo j' n2] at e2; exact h.inj j j' b e1 e2

/-- a new row, in a new block or none -/
theorem SimB.newRow (h : SimB w ρ bx) {k : Nat} (hk : bx k = .nil) {w' : World} (hb : Below w.heap.size w w') {full : Bool} {e : Nat} {q : Row} {v : Value} {xs : List Value} (ho : ownsR w' ρ.A e q.sz v q.n xs)
    (hnew : ∀ b, ownB v = some b → w.heap.size ≤ b) (hr : RowRep w (okS ρ bx) xs q) (hf : full = true → ∀ a n c, v = .slice a n c → c = n) :
    ∃ ρ' : Env, Ext w ρ bx w' ρ' (setBox bx k (.row full e q)) ∧ SimB w' ρ' (setBox bx k (.row full e q)) ∧ ρ'.hd k = v := by
  let ρ' : Env := ⟨fun j => if j = k then (ownB v).getD 0 else ρ.β j, fun j => if j = k then v else ρ.hd j, ρ.A⟩
  have hβ : ∀ j, j ≠ k → ρ'.β j = ρ.β j := fun j hj => if_neg hj
  have hh : ∀ j, j ≠ k → ρ'.hd j = ρ.hd j := fun j hj => if_neg hj
  have hβk : ρ'.β k = (ownB v).getD 0 := if_pos rfl
  have hhk : ρ'.hd k = v := if_pos rfl
  have hbo : ∀ j, j ≠ k → (setBox bx k (.row full e q)) j = bx j := fun j hj => by rw [bget_setBox, if_neg hj]
  have hbk : (setBox bx k (.row full e q)) k = .row full e q := by rw [bget_setBox, if_pos rfl]
  have hoo : ∀ j, j ≠ k → own ρ' (setBox bx k (.row full e q)) j = own ρ bx j := fun j hj => own_other (hbo j hj) (hβ j hj) (hh j hj)
  have hok : own ρ' (setBox bx k (.row full e q)) k = ownB v := by unfold own; rw [hbk, hhk]
  have hext : Ext w ρ bx w' ρ' (setBox bx k (.row full e q)) := {
    below := hb.mono (Nat.zero_le _)
    keep := fun b hlt _ => hb.block b hlt
    mutOld := fun b hb ⟨j, hj⟩ => by
      by_cases hjk : j = k
      · subst hjk; rw [hok] at hj; have := hnew b hj; omega
      · rw [hoo j hjk] at hj; exact ⟨j, hj⟩
    env := fun j hm => by
      have hjk : j ≠ k := fun e => by subst e; rw [hk] at hm; exact hm
      exact ⟨hβ j hjk, hh j hjk, by rw [hbo j hjk]; exact hm⟩
    A := rfl }
  refine ⟨ρ', hext, h.upd hext (fun j => ?_) (fun j j' b h1 h2 => ?_), hhk⟩
  · by_cases hjk : j = k
    · subst hjk
      rw [hbk]
      exact .inr ⟨xs, by rw [hhk]; exact ho, hr.ext hext.ok, fun b hb => by rw [hhk] at hb; rw [hβk, hb]; rfl, fun hft => by rw [hhk]; exact hf hft⟩
    · exact .inl ⟨hbo j hjk, fun c hc => hb.block c (h.own_lt hc)⟩
  · by_cases hj : j = k <;> by_cases hj' : j' = k
    · rw [hj, hj']
    · subst hj; rw [hok] at h1; rw [hoo j' hj'] at h2; have := hnew b h1; have := h.own_lt h2; omega
    · subst hj'; rw [hok] at h2; rw [hoo j hj] at h1; have := hnew b h2; have := h.own_lt h1; omega
    · rw [hoo j hj] at h1; rw [hoo j' hj'] at h2; exact h.inj j j' b h1 h2
end
/-- an own row is followed by another that may have its block -/
theorem SimB.grow {w : World} {ρ : Env} {bx : Nat → Box} (h : SimB w ρ bx) {k k' : Nat} {full : Bool} {e : Nat} {q0 q : Row} (hk : bx k = .row full e q0) (hk' : bx k' = .nil) {w' : World} (hb : Below 0 w w')
    (hkeep : ∀ b, b < w.heap.size → ownB (ρ.hd k) ≠ some b → w'.heap[b]? = w.heap[b]?) {v : Value} {xs : List Value} (ho : ownsR w' ρ.A e q.sz v q.n xs)
    (hnew : ∀ b, ownB v = some b → w.heap.size ≤ b ∨ ownB (ρ.hd k) = some b) (hr : RowRep w (okS ρ bx) xs q) :
    ∃ ρ' : Env, Ext w ρ bx w' ρ' (setBox (setBox bx k .gone) k' (.row false e q)) ∧ SimB w' ρ' (setBox (setBox bx k .gone) k' (.row false e q)) ∧ ρ'.hd k' = v := by
  let ρ' : Env := ⟨fun j => if j = k' then (ownB v).getD 0 else ρ.β j, fun j => if j = k' then v else ρ.hd j, ρ.A⟩
  let bx' := setBox (setBox bx k .gone) k' (.row false e q)
  have hkk : k ≠ k' := fun e => by subst e; rw [hk] at hk'; cases hk'
  have hβ : ∀ j, j ≠ k' → ρ'.β j = ρ.β j := fun j hj => if_neg hj
  have hh : ∀ j, j ≠ k' → ρ'.hd j = ρ.hd j := fun j hj => if_neg hj
  have hβk : ρ'.β k' = (ownB v).getD 0 := if_pos rfl
  have hhk : ρ'.hd k' = v := if_pos rfl
  have hbo : ∀ j, j ≠ k → j ≠ k' → bx' j = bx j := fun j h1 h2 => by show setBox _ _ _ j = _; rw [bget_setBox, if_neg h2, bget_setBox, if_neg h1]
  have hbk : bx' k = .gone := by show setBox _ _ _ k = _; rw [bget_setBox, if_neg hkk, bget_setBox, if_pos rfl]
  have hbk' : bx' k' = .row false e q := by show setBox _ _ _ k' = _; rw [bget_setBox, if_pos rfl]
  have hoo : ∀ j, j ≠ k → j ≠ k' → own ρ' bx' j = own ρ bx j := fun j h1 h2 => own_other (hbo j h1 h2) (hβ j h2) (hh j h2)
  have hok : own ρ' bx' k = none := by unfold own; rw [hbk]
  have hok' : own ρ' bx' k' = ownB v := by unfold own; rw [hbk', hhk]
  have hko : own ρ bx k = ownB (ρ.hd k) := by unfold own; rw [hk]
  have hext : Ext w ρ bx w' ρ' bx' := {
    below := hb
    keep := fun b hlt hm => hkeep b hlt (fun e => hm ⟨k, by rw [hko, e]⟩)
    mutOld := fun b hlt ⟨j, hj⟩ => by
      by_cases h1 : j = k
      · subst h1; rw [hok] at hj; cases hj
      · by_cases h2 : j = k'
        · subst h2
          rw [hok'] at hj
          rcases hnew b hj with h3 | h3
          · omega
          · exact ⟨k, by rw [hko, h3]⟩
        · rw [hoo j h1 h2] at hj; exact ⟨j, hj⟩
    env := fun j hm => by
      have h2 : j ≠ k' := fun e => by subst e; rw [hk'] at hm; exact hm
      refine ⟨hβ j h2, hh j h2, ?_⟩
      by_cases h1 : j = k
      · subst h1; rw [hbk]; trivial
      · rw [hbo j h1 h2]; exact hm
    A := rfl }
  refine ⟨ρ', hext, h.upd (bx' := bx') hext (fun j => ?_) (fun j j' b e1 e2 => ?_), hhk⟩
  · by_cases h1 : j = k
    · subst h1; rw [hbk]; exact .inr trivial
    · by_cases h2 : j = k'
      · subst h2
        rw [hbk']
        exact .inr ⟨xs, by rw [hhk]; exact ho, hr.ext hext.ok, fun b hb => by rw [hhk] at hb; rw [hβk, hb]; rfl, fun hft => by cases hft⟩
      · exact .inl ⟨hbo j h1 h2, fun c hc => hkeep c (h.own_lt hc) (fun e => h1 (h.inj j k c hc (by rw [hko, e])))⟩
  · have n1 : j ≠ k := fun e => by subst e; rw [hok] at e1; cases e1
    have n2 : j' ≠ k := fun e => by subst e; rw [hok] at e2; cases e2
    by_cases hj : j = k' <;> by_cases hj' : j' = k'
    · rw [hj, hj']
    · subst hj
      rw [hok'] at e1; rw [hoo j' n2 hj'] at e2
      rcases hnew b e1 with h3 | h3
      · have := h.own_lt e2; omega
      · exact absurd (h.inj j' k b e2 (by rw [hko, h3])) n2
    · subst hj'
      rw [hok'] at e2; rw [hoo j n1 hj] at e1
      rcases hnew b e2 with h3 | h3
      · have := h.own_lt e1; omega
      · exact absurd (h.inj j k b e1 (by rw [hko, h3])) n1
    · rw [hoo j n1 hj] at e1; rw [hoo j' n2 hj'] at e2; exact h.inj j j' b e1 e2

/-- one operation is met, in every state that agrees on the boxes that it reads -/
def LocalOk (P : Program) (o : Oper) (ev : Operand → AV) (bx : Bxs) (r : AV) (e : List (Nat × Box)) (rd : List Nat) : Prop :=
  ∀ (w : World) (ρ : Env) (bx' : Nat → Box) (a : Act) (K : Act → World → Prop) (Q : Exit → Act → World → Prop),
    (∀ k, k ∈ rd → bx' k = bget bx k) → (∀ k b, (k, b) ∈ e → k ∈ rd ∨ bx' k = .nil) → SimB w ρ bx' →
    (∀ x, x ∈ o.op.operands → Rep w ρ bx' (a.eval x) (ev x)) →
    (∀ v' w' ρ', Ext w ρ bx' w' ρ' (appE bx' e) → SimB w' ρ' (appE bx' e) → Rep w' ρ' (appE bx' e) v' r → K (a.put o.dst v') w') →
    o.wp P a w K Q

theorem LocalOk.pure {P : Program} {o : Oper} {ev : Operand → AV} {bx : Bxs} {r : AV} {rd : List Nat}
    (h : ∀ (w : World) (ρ : Env) (bx' : Nat → Box) (a : Act), (∀ k, k ∈ rd → bx' k = bget bx k) → SimB w ρ bx' →
      (∀ x, x ∈ o.op.operands → Rep w ρ bx' (a.eval x) (ev x)) → ∃ v', (execOp a.eval o).run P w = .ok (.value v') w ∧ Rep w ρ bx' v' r) :
    LocalOk P o ev bx r [] rd := by
  intro w ρ bx' a K Q hag _ hs hr hK
  obtain ⟨v', hrun, hv⟩ := h w ρ bx' a hag hs hr
  unfold Oper.wp
  rw [hrun]
  exact hK v' w ρ Ext.refl hs hv

theorem LocalOk.run {P : Program} {o : Oper} {ev : Operand → AV} {bx : Bxs} {r : AV} {e : List (Nat × Box)} {rd : List Nat}
    (h : ∀ (w : World) (ρ : Env) (bx' : Nat → Box) (a : Act), (∀ k, k ∈ rd → bx' k = bget bx k) → (∀ k b, (k, b) ∈ e → k ∈ rd ∨ bx' k = .nil) → SimB w ρ bx' →
      (∀ x, x ∈ o.op.operands → Rep w ρ bx' (a.eval x) (ev x)) →
      ∃ n v' w' ρ', (execOp a.eval o).run P w = .ok n w' ∧ (n = .value v' ∨ (n = .skip ∧ v' = undef)) ∧ Ext w ρ bx' w' ρ' (appE bx' e) ∧ SimB w' ρ' (appE bx' e) ∧ Rep w' ρ' (appE bx' e) v' r) :
    LocalOk P o ev bx r e rd := by
  intro w ρ bx' a K Q hag hnew hs hr hK
  obtain ⟨n, v', w', ρ', hrun, hn, he, hs', hv⟩ := h w ρ bx' a hag hnew hs hr
  unfold Oper.wp
  rw [hrun]
  rcases hn with rfl | ⟨rfl, rfl⟩
  · exact hK v' w' ρ' he hs' hv
  · exact hK undef w' ρ' he hs' hv
end Go.Cm
