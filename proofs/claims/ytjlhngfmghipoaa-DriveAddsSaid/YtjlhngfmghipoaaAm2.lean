/- The abstract machine, part 2: new boxes and writes to boxes in the world, and what it means that one operation is met. No condition. -/
import Derived.Test.YtjlhngfmghipoaaAm1
import Derived.Laws.CopyRow
import Derived.Laws.CopyOwn
namespace Go.Am
open Go.RowKit

def bget (bx : List Box) (k : Nat) : Box := bx.getD k .nil
def setBox (bx : Nat → Box) (k : Nat) (b : Box) : Nat → Box := fun j => if j = k then b else bx j
def appE (bx : Nat → Box) : List (Nat × Box) → (Nat → Box)
  | [] => bx
  | (k, b) :: r => appE (setBox bx k b) r
theorem bget_setBox (bx : Nat → Box) (k j : Nat) (b : Box) : setBox bx k b j = if j = k then b else bx j := rfl

/-- the same on lists of boxes -/
def setL (bx : List Box) (k : Nat) (b : Box) : List Box :=
  if k < bx.length then bx.set k b else bx ++ List.replicate (k - bx.length) .nil ++ [b]
def appL (bx : List Box) : List (Nat × Box) → List Box
  | [] => bx
  | (k, b) :: r => appL (setL bx k b) r
theorem bget_setL (bx : List Box) (k : Nat) (b : Box) : bget (setL bx k b) = setBox (bget bx) k b := by
  funext j
  unfold setL bget setBox
  by_cases hk : k < bx.length
  · rw [if_pos hk]
    simp only [List.getD, List.getElem?_set]
    by_cases h : k = j
    · subst h; simp [hk]
    · rw [if_neg h, if_neg (Ne.symm h)]
  · rw [if_neg hk]
    simp only [List.getD, List.append_assoc, List.getElem?_append]
    by_cases h : j = k
    · subst h
      rw [if_neg (by omega), if_neg (by simp), if_pos rfl]
      simp
    · rw [if_neg h]
      by_cases h1 : j < bx.length
      · rw [if_pos h1]
      · rw [if_neg h1]
        by_cases h2 : j - bx.length < (List.replicate (k - bx.length) Box.nil).length
        · rw [if_pos h2, List.getElem?_replicate]
          rw [List.getElem?_eq_none (by omega)]
          split <;> rfl
        · rw [if_neg h2, List.getElem?_eq_none (by simp at h2 ⊢; omega), List.getElem?_eq_none (by omega)]
theorem bget_appL : ∀ (e : List (Nat × Box)) (bx : List Box), bget (appL bx e) = appE (bget bx) e
  | [], _ => rfl
  | (k, b) :: e, bx => by simp only [appL, appE]; rw [bget_appL e, bget_setL]

def AV.one : AV → Bool
  | .lit v => v.oneCell'
  | .agg _ => false
  | .tup _ => false
  | .dead => false
  | _ => true
def cellsA : AV → List AV
  | .agg cs => cs
  | t => [t]
def AV.fit : AV → Bool
  | .agg cs => cs.all AV.one
  | t => t.one
def ofV1 : Value → AV
  | .slice none 0 0 => .e0
  | v => .lit v
def ofV : Value → AV
  | .agg cs => .agg (cs.toList.map ofV1)
  | v => ofV1 v
def ofTree (fl : Bool) : Tree → AV
  | .lit v => .lit v
  | .sl L => .sl fl L

section
variable {B0 : Nat} {w : World} {ρ : Env} {bx : Nat → Box}

theorem Rep.isOne {v : Value} {t : AV} (r : Rep B0 w ρ bx v t) (h : t.one = true) : v.oneCell' = true := by
  cases r with
  | lit => exact h
  | agg | tup | dead => cases h
  | sl fl L v r => cases r; rfl
  | e0 => rfl
  | row k v hm hs hv => obtain ⟨a, n, c, rfl⟩ := hs; rfl
  | ptr k off v hm hv => rw [hv]; rfl
  | rp k sz i j v hm hv => rw [hv]; rfl
  | ep => rfl
  | clo => rfl

theorem cells_of_one {v : Value} (h : v.oneCell' = true) : v.cells.toList = [v] := by
  cases v <;> first | rfl | cases h

theorem Rep.cells {v : Value} {t : AV} (r : Rep B0 w ρ bx v t) (h : t.fit = true) : RepL B0 w ρ bx v.cells.toList (cellsA t) ∧ ∀ u, u ∈ v.cells.toList → u.oneCell' = true := by
  by_cases ha : ∃ cs, t = .agg cs
  · obtain ⟨cs, rfl⟩ := ha
    cases r with
    | agg vs ts hl hr =>
      refine ⟨⟨hl, hr⟩, fun u hu => ?_⟩
      obtain ⟨i, hi, rfl⟩ := List.mem_iff_getElem.1 hu
      have hi' : i < vs.length := hi
      have h' := hr i vs[i] cs[i] (List.getElem?_eq_getElem hi') (List.getElem?_eq_getElem (by omega))
      exact h'.isOne (List.all_eq_true.1 h _ (List.getElem_mem _))
  · have ho : t.one = true := by cases t <;> first | exact h | exact absurd ⟨_, rfl⟩ ha
    have hc : cellsA t = [t] := by cases t <;> first | rfl | exact absurd ⟨_, rfl⟩ ha
    have h1 := r.isOne ho
    rw [cells_of_one h1, hc]
    refine ⟨⟨rfl, fun i v' t' h2 h3 => ?_⟩, fun u hu => by simp at hu; rw [hu]; exact h1⟩
    match i, h2, h3 with
    | 0, h2, h3 => simp at h2 h3; subst h2; subst h3; exact r
    | i + 1, h2, _ => simp at h2

theorem Rep_ofV1 (v : Value) : Rep B0 w ρ bx v (ofV1 v) := by
  unfold ofV1
  split
  · exact .e0 _
  · exact .lit _
theorem Rep_ofV (v : Value) : Rep B0 w ρ bx v (ofV v) := by
  unfold ofV
  split
  · rename_i cs
    refine .agg cs.toList _ (by simp) fun i v t h1 h2 => ?_
    simp only [List.getElem?_map, h1, Option.map_some, Option.some.injEq] at h2
    subst h2
    exact Rep_ofV1 v
  · exact Rep_ofV1 v
theorem Rep_ofTree {fl : Bool} {v : Value} {t : Tree} (r : RepT w (okS B0 ρ bx fl) v t) : Rep B0 w ρ bx v (ofTree fl t) := by
  cases t with
  | lit v' => cases r; exact .lit _
  | sl L => exact .sl fl L v r

theorem Rep.inv_lit {v v' : Value} (h : Rep B0 w ρ bx v (.lit v')) : v = v' := by cases h; rfl
theorem Rep.inv_ptr {v : Value} {k off : Nat} (h : Rep B0 w ρ bx v (.ptr k off)) : (bx k).made ∧ v = .pointer (some ⟨ρ.β k, off, none⟩) := by
  cases h with
  | ptr _ _ _ hm hv => exact ⟨hm, hv⟩
theorem Rep.inv_rp {v : Value} {k sz i j : Nat} (h : Rep B0 w ρ bx v (.rp k sz i j)) : (bx k).made ∧ v = .pointer (some ⟨ρ.β k, i * sz + j, none⟩) := by
  cases h with
  | rp _ _ _ _ _ hm hv => exact ⟨hm, hv⟩
theorem Rep.inv_row {v : Value} {k : Nat} (h : Rep B0 w ρ bx v (.row k)) : (bx k).made ∧ v = ρ.hd k := by
  cases h with
  | row _ _ hm _ hv => exact ⟨hm, hv⟩
theorem Rep.inv_agg {v : Value} {ts : List AV} (h : Rep B0 w ρ bx v (.agg ts)) : ∃ vs : List Value, v = .agg ⟨vs⟩ ∧ RepL B0 w ρ bx vs ts := by
  cases h with
  | agg vs _ hl hr => exact ⟨vs, rfl, hl, hr⟩
theorem Rep.inv_tup {v : Value} {ts : List AV} (h : Rep B0 w ρ bx v (.tup ts)) : ∃ vs : List Value, v = .tuple ⟨vs⟩ ∧ RepL B0 w ρ bx vs ts := by
  cases h with
  | tup vs _ hl hr => exact ⟨vs, rfl, hl, hr⟩
theorem Rep.inv_clo {v : Value} {f : FuncId} {ts : List AV} (h : Rep B0 w ρ bx v (.clo f ts)) : ∃ vs : List Value, v = .func (.func f) #[] ⟨vs⟩ ∧ RepL B0 w ρ bx vs ts := by
  cases h with
  | clo _ vs _ hl hr => exact ⟨vs, rfl, hl, hr⟩
theorem Rep.inv_sl {v : Value} {fl : Bool} {L : List (List Tree)} (h : Rep B0 w ρ bx v (.sl fl L)) : RepT w (okS B0 ρ bx fl) v (.sl L) := by
  cases h with
  | sl _ _ _ hr => exact hr
theorem Rep.inv_e0 {v : Value} (h : Rep B0 w ρ bx v .e0) : ∃ a, v = .slice a 0 0 := by
  cases h with
  | e0 a => exact ⟨a, rfl⟩
theorem Rep.inv_ep {v : Value} {fl : Bool} {cs : List Tree} {j : Nat} (h : Rep B0 w ρ bx v (.ep fl cs j)) : ∃ (b o : Nat) (f : Nat → Value), v = .pointer (some ⟨b, o + j, none⟩) ∧
    (∀ (i : Nat) (t : Tree), cs[i]? = some t → okS B0 ρ bx fl b ∧ w.cell? ⟨b, o + i, none⟩ = some (f i)) ∧ ∀ (i : Nat) (t : Tree), cs[i]? = some t → RepT w (okS B0 ρ bx fl) (f i) t := by
  cases h with
  | ep _ b o _ _ f hc hr => exact ⟨b, o, f, rfl, hc, hr⟩

/-- own blocks of the boxes but for k -/
theorem own_other {ρ ρ' : Env} {bx bx' : Nat → Box} {j : Nat} (hb : bx' j = bx j) (hβ : ρ'.β j = ρ.β j) (hh : ρ'.hd j = ρ.hd j) : own ρ' bx' j = own ρ bx j := by
  unfold own
  rw [hb, hβ, hh]

/-- a new box of cells -/
theorem SimB.push (h : SimB B0 w ρ bx) {k : Nat} (hk : bx k = .nil) (ty : TypeId) {vs : List Value} {cs : List AV} (hr : RepL B0 w ρ bx vs cs) :
    ∃ ρ' : Env, ρ'.β k = w.heap.size ∧ Ext B0 w ρ bx (w.alloc (.cells ⟨vs⟩ ty)) ρ' (setBox bx k (.var ty cs)) ∧ SimB B0 (w.alloc (.cells ⟨vs⟩ ty)) ρ' (setBox bx k (.var ty cs)) := by
  let ρ' : Env := ⟨fun j => if j = k then w.heap.size else ρ.β j, ρ.hd⟩
  have hβ : ∀ j, j ≠ k → ρ'.β j = ρ.β j := fun j hj => if_neg hj
  have hβk : ρ'.β k = w.heap.size := if_pos rfl
  have hbo : ∀ j, j ≠ k → (setBox bx k (.var ty cs)) j = bx j := fun j hj => by rw [bget_setBox, if_neg hj]
  have hbk : (setBox bx k (.var ty cs)) k = .var ty cs := by rw [bget_setBox, if_pos rfl]
  have hoo : ∀ j, j ≠ k → own ρ' (setBox bx k (.var ty cs)) j = own ρ bx j := fun j hj => own_other (hbo j hj) (hβ j hj) rfl
  have hok : own ρ' (setBox bx k (.var ty cs)) k = some w.heap.size := by unfold own; rw [hbk, hβk]
  have hext : Ext B0 w ρ bx (w.alloc (.cells ⟨vs⟩ ty)) ρ' (setBox bx k (.var ty cs)) := {
    below := (Below.refl _ _).alloc h.base _
    keep := fun b hb _ => Below.heap_alloc w _ b hb
    mutOld := fun b hb ⟨j, hj⟩ => by
      by_cases hjk : j = k
      · subst hjk; rw [hok] at hj; injection hj with hj; omega
      · rw [hoo j hjk] at hj; exact ⟨j, hj⟩
    env := fun j hm => by
      have hjk : j ≠ k := fun e => by subst e; rw [hk] at hm; exact hm
      exact ⟨hβ j hjk, rfl, by rw [hbo j hjk]; exact hm⟩ }
  refine ⟨ρ', hβk, hext, { base := ?_, box := fun j => ?_, inj := fun j j' b h1 h2 => ?_ }⟩
  · exact Nat.le_trans h.base (by simp)
  · by_cases hjk : j = k
    · subst hjk
      rw [hbk]
      exact ⟨by rw [hβk]; exact h.base, vs, by rw [hβk]; exact heap_alloc_new w _, hr.ext hext⟩
    · rw [hbo j hjk]
      by_cases hm : (bx j).made
      · exact SimBox.ext hext (h.box j) rfl hm fun c hc => Below.heap_alloc w _ c (h.own_lt hc).2
      · cases hb : bx j <;> rw [hb] at hm <;> first | exact absurd trivial hm | trivial
  · by_cases hj : j = k <;> by_cases hj' : j' = k
    · rw [hj, hj']
    · subst hj; rw [hok] at h1; rw [hoo j' hj'] at h2; injection h1 with h1; have := (h.own_lt h2).2; omega
    · subst hj'; rw [hok] at h2; rw [hoo j hj] at h1; injection h2 with h2; have := (h.own_lt h1).2; omega
    · rw [hoo j hj] at h1; rw [hoo j' hj'] at h2; exact h.inj j j' b h1 h2

/-- a box of cells gets other cells -/
theorem SimB.write (h : SimB B0 w ρ bx) {k : Nat} {ty : TypeId} {cs0 : List AV} (hk : bx k = .var ty cs0) {vs : List Value} {cs : List AV} (hr : RepL B0 w ρ bx vs cs) :
    Ext B0 w ρ bx (w.setRow (ρ.β k) ⟨vs⟩) ρ (setBox bx k (.var ty cs)) ∧ SimB B0 (w.setRow (ρ.β k) ⟨vs⟩) ρ (setBox bx k (.var ty cs)) := by
  have hbo : ∀ j, j ≠ k → (setBox bx k (.var ty cs)) j = bx j := fun j hj => by rw [bget_setBox, if_neg hj]
  have hbk : (setBox bx k (.var ty cs)) k = .var ty cs := by rw [bget_setBox, if_pos rfl]
  have hoo : ∀ j, own ρ (setBox bx k (.var ty cs)) j = own ρ bx j := fun j => by
    by_cases hj : j = k
    · subst hj; unfold own; rw [hbk, hk]
    · exact own_other (hbo j hj) rfl rfl
  have hko : own ρ bx k = some (ρ.β k) := by unfold own; rw [hk]
  have hsim := h.box k
  rw [hk] at hsim
  obtain ⟨h1, vs0, h2, h3⟩ := hsim
  have hext : Ext B0 w ρ bx (w.setRow (ρ.β k) ⟨vs⟩) ρ (setBox bx k (.var ty cs)) := {
    below := below_setRow (Below.refl _ _) h1 _
    keep := fun b hb hm => setRow_other w _ b _ (fun e => hm ⟨k, by rw [hko, e]⟩)
    mutOld := fun b hb ⟨j, hj⟩ => ⟨j, by rw [← hoo j]; exact hj⟩
    env := fun j hm => ⟨rfl, rfl, by
      by_cases hj : j = k
      · subst hj; rw [hbk]; trivial
      · rw [hbo j hj]; exact hm⟩ }
  refine ⟨hext, { base := ?_, box := fun j => ?_, inj := fun j j' b e1 e2 => ?_ }⟩
  · exact Nat.le_trans h.base hext.below.size
  · by_cases hjk : j = k
    · subst hjk
      rw [hbk]
      exact ⟨h1, vs, setRow_heap w _ _ _ _ _ h2, hr.ext hext⟩
    · rw [hbo j hjk]
      by_cases hm : (bx j).made
      · exact SimBox.ext hext (h.box j) rfl hm fun c hc => setRow_other w _ c _ (fun e => hjk (h.inj j k c hc (by rw [hko, e])))
      · cases hb : bx j <;> rw [hb] at hm <;> first | exact absurd trivial hm | trivial
  · rw [hoo] at e1 e2; exact h.inj j j' b e1 e2
end

/-- one operation is met, in every state that agrees on the boxes that it reads -/
def LocalOk (P : Program) (o : Oper) (ev : Operand → AV) (bx : List Box) (r : AV) (e : List (Nat × Box)) (rd : List Nat) : Prop :=
  ∀ (B0 : Nat) (w : World) (ρ : Env) (bx' : Nat → Box) (a : Act) (K : Act → World → Prop) (Q : Exit → Act → World → Prop),
    (∀ k, k ∈ rd → bx' k = bget bx k) → (∀ k b, (k, b) ∈ e → k ∈ rd ∨ bx' k = .nil) → SimB B0 w ρ bx' →
    (∀ x, x ∈ o.op.operands → Rep B0 w ρ bx' (a.eval x) (ev x)) →
    (∀ v' w' ρ', Ext B0 w ρ bx' w' ρ' (appE bx' e) → SimB B0 w' ρ' (appE bx' e) → Rep B0 w' ρ' (appE bx' e) v' r → K (a.put o.dst v') w') →
    o.wp P a w K Q

theorem LocalOk.pure {P : Program} {o : Oper} {ev : Operand → AV} {bx : List Box} {r : AV} {rd : List Nat}
    (h : ∀ (B0 : Nat) (w : World) (ρ : Env) (bx' : Nat → Box) (a : Act), (∀ k, k ∈ rd → bx' k = bget bx k) → SimB B0 w ρ bx' →
      (∀ x, x ∈ o.op.operands → Rep B0 w ρ bx' (a.eval x) (ev x)) → ∃ v', (execOp a.eval o).run P w = .ok (.value v') w ∧ Rep B0 w ρ bx' v' r) :
    LocalOk P o ev bx r [] rd := by
  intro B0 w ρ bx' a K Q hag _ hs hr hK
  obtain ⟨v', hrun, hv⟩ := h B0 w ρ bx' a hag hs hr
  unfold Oper.wp
  rw [hrun]
  exact hK v' w ρ Ext.refl hs hv

theorem LocalOk.run {P : Program} {o : Oper} {ev : Operand → AV} {bx : List Box} {r : AV} {e : List (Nat × Box)} {rd : List Nat}
    (h : ∀ (B0 : Nat) (w : World) (ρ : Env) (bx' : Nat → Box) (a : Act), (∀ k, k ∈ rd → bx' k = bget bx k) → (∀ k b, (k, b) ∈ e → k ∈ rd ∨ bx' k = .nil) → SimB B0 w ρ bx' →
      (∀ x, x ∈ o.op.operands → Rep B0 w ρ bx' (a.eval x) (ev x)) →
      ∃ n v' w' ρ', (execOp a.eval o).run P w = .ok n w' ∧ (n = .value v' ∨ (n = .skip ∧ v' = undef)) ∧ Ext B0 w ρ bx' w' ρ' (appE bx' e) ∧ SimB B0 w' ρ' (appE bx' e) ∧ Rep B0 w' ρ' (appE bx' e) v' r) :
    LocalOk P o ev bx r e rd := by
  intro B0 w ρ bx' a K Q hag hnew hs hr hK
  obtain ⟨n, v', w', ρ', hrun, hn, he, hs', hv⟩ := h B0 w ρ bx' a hag hnew hs hr
  unfold Oper.wp
  rw [hrun]
  rcases hn with rfl | ⟨rfl, rfl⟩
  · exact hK v' w' ρ' he hs' hv
  · exact hK undef w' ρ' he hs' hv
end Go.Am
