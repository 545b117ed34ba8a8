/- The abstract machine, third state, part 9: nil slices as own empty rows; new variables, struct values, slice expressions, closures, fields. No condition. -/
import Derived.Test.YtibcoiabdnbdjaaDoorCm8
namespace Go.Cm
open Go.RowKit
set_option linter.unusedSectionVars false
variable [Sig]

/-- which cells of a type are slices, of what -/
def slE (P : Program) : Nat → TypeId → List (Option TypeId)
  | 0, _ => []
  | n + 1, t =>
    match P.underlying t with
    | some (.slice e) => [some e]
    | some (.struct fs) => fs.toList.flatMap fun f => slE P n f.type
    | some (.array m e) => (List.replicate m (slE P n e)).flatten
    | _ => [none]
/-! nil slices become own empty rows -/
def rowsE (P : Program) : List (Option TypeId) → List AV → Nat → List AV × List (Nat × Box)
  | _, [], _ => ([], [])
  | os, a :: as, n =>
    match (match a, os.headD none with
      | .e0, some e => (match Sig.ofId e with | some te => some (e, te) | none => none)
      | _, _ => none) with
    | some (e, te) => (.row n :: (rowsE P os.tail as (n + 1)).1, (n, .row false e ⟨te, []⟩) :: (rowsE P os.tail as (n + 1)).2)
    | none => (a :: (rowsE P os.tail as n).1, (rowsE P os.tail as n).2)

theorem rowsE_keys {P : Program} : ∀ {as : List AV} {os : List (Option TypeId)} {n k : Nat} {b : Box}, (k, b) ∈ (rowsE P os as n).2 → n ≤ k
  | [], os, n, k, b, h => by simp [rowsE] at h
  | a :: as, os, n, k, b, h => by
    unfold rowsE at h
    split at h
    · simp only [List.mem_cons, Prod.mk.injEq] at h
      rcases h with ⟨rfl, _⟩ | h
      · exact Nat.le_refl _
      · exact Nat.le_of_succ_le (rowsE_keys h)
    · exact rowsE_keys h

theorem SimB.nilRow {w : World} {ρ : Env} {bx : Nat → Box} (hs : SimB w ρ bx) {k : Nat} (hk : bx k = .nil) (e : Nat) (te : Sig.TI) (a : Option Addr) :
    ∃ ρ' : Env, Ext w ρ bx w ρ' (setBox bx k (.row false e ⟨te, []⟩)) ∧ SimB w ρ' (setBox bx k (.row false e ⟨te, []⟩)) ∧ ρ'.hd k = .slice a 0 0 :=
  hs.newRow hk (Below.refl _ _) (v := .slice a 0 0) (xs := []) ⟨by simp [RowOf.n], .inl ⟨a, rfl, rfl⟩⟩ (fun b hb => (by cases a <;> cases hb)) ⟨fun v hv => (by simp at hv), fun i j t v hi => (by cases hi)⟩ (fun h => by cases h)

theorem rowsE_sound {P : Program} {w : World} : ∀ (as : List AV) (os : List (Option TypeId)) (n : Nat) (ρ : Env) (bx' : Nat → Box) (vs : List Value), SimB w ρ bx' → (∀ k b, (k, b) ∈ (rowsE P os as n).2 → bx' k = .nil) → RepL w ρ bx' vs as →
    ∃ ρ', Ext w ρ bx' w ρ' (appE bx' (rowsE P os as n).2) ∧ SimB w ρ' (appE bx' (rowsE P os as n).2) ∧ RepL w ρ' (appE bx' (rowsE P os as n).2) vs (rowsE P os as n).1
  | [], os, n, ρ, bx', vs, hs, _, hr => ⟨ρ, Ext.refl, hs, hr⟩
  | a :: as, os, n, ρ, bx', [], hs, _, hr => by have := hr.1; simp at this
  | a :: as, os, n, ρ, bx', v :: vs, hs, hnew, hr => by
    have hr0 := hr.2 0 v a rfl rfl
    have hrt : RepL w ρ bx' vs as := ⟨by have := hr.1; simpa using this, fun i v t h1 h2 => hr.2 (i + 1) v t (by simpa using h1) (by simpa using h2)⟩
    unfold rowsE at hnew ⊢
    split
    · rename_i e te hm
      rw [hm] at hnew
      have ha : a = .e0 := by
        split at hm
        · rfl
        · cases hm
      subst ha
      obtain ⟨A, rfl⟩ := hr0.inv_e0
      obtain ⟨ρ1, he1, hs1, hh1⟩ := hs.nilRow (hnew n _ (List.mem_cons_self ..)) e te A
      obtain ⟨ρ2, he2, hs2, hr2⟩ := rowsE_sound as os.tail (n + 1) ρ1 _ vs hs1 (fun k b hb => by
        have := rowsE_keys hb
        rw [bget_setBox, if_neg (by omega)]
        exact hnew k b (List.mem_cons_of_mem _ hb)) (hrt.ext he1)
      refine ⟨ρ2, he1.trans he2, hs2, ⟨by simp [hr2.1], fun i v t h1 h2 => ?_⟩⟩
      match i, h1, h2 with
      | 0, h1, h2 =>
        simp at h1 h2
        subst h1; subst h2
        have := Rep.mkRow (k := n) (full := false) (e := e) (q := ⟨te, []⟩) (by rw [bget_setBox, if_pos rfl]) hs1
        rw [hh1] at this
        exact this.ext he2
      | i + 1, h1, h2 => exact hr2.2 i v t (by simpa using h1) (by simpa using h2)
    · rename_i hm
      rw [hm] at hnew
      obtain ⟨ρ2, he2, hs2, hr2⟩ := rowsE_sound as os.tail n ρ bx' vs hs hnew hrt
      refine ⟨ρ2, he2, hs2, ⟨by simp [hr2.1], fun i v t h1 h2 => ?_⟩⟩
      match i, h1, h2 with
      | 0, h1, h2 =>
        simp at h1 h2
        subst h1; subst h2
        exact hr0.ext he2
      | i + 1, h1, h2 => exact hr2.2 i v t (by simpa using h1) (by simpa using h2)

/-- a new variable; its nil slices become rows -/
def boxF2 (P : Program) (t : TypeId) (x : AV) (n0 : Nat) : Res :=
  if x.fit = true then some (none, .ptr n0 0, (rowsE P (slE P 8 t) (cellsA x) (n0 + 1)).2 ++ [(n0, .var t (rowsE P (slE P 8 t) (cellsA x) (n0 + 1)).1)], []) else none
theorem box2_run {P : Program} {t n0 : Nat} {x : AV} {w : World} {ρ : Env} {bx' : Nat → Box} {v : Value} (hf : x.fit = true) (hs : SimB w ρ bx') (hx : Rep w ρ bx' v x)
    (hnew : ∀ k b, (k, b) ∈ (rowsE P (slE P 8 t) (cellsA x) (n0 + 1)).2 ++ [(n0, .var t (rowsE P (slE P 8 t) (cellsA x) (n0 + 1)).1)] → bx' k = .nil) :
    ∃ ρ', Ext w ρ bx' (w.alloc (.cells v.cells t)) ρ' (appE bx' ((rowsE P (slE P 8 t) (cellsA x) (n0 + 1)).2 ++ [(n0, .var t (rowsE P (slE P 8 t) (cellsA x) (n0 + 1)).1)])) ∧
      SimB (w.alloc (.cells v.cells t)) ρ' (appE bx' ((rowsE P (slE P 8 t) (cellsA x) (n0 + 1)).2 ++ [(n0, .var t (rowsE P (slE P 8 t) (cellsA x) (n0 + 1)).1)])) ∧
      Rep (w.alloc (.cells v.cells t)) ρ' (appE bx' ((rowsE P (slE P 8 t) (cellsA x) (n0 + 1)).2 ++ [(n0, .var t (rowsE P (slE P 8 t) (cellsA x) (n0 + 1)).1)])) (.pointer (some ⟨w.heap.size, 0, none⟩)) (.ptr n0 0) := by
  obtain ⟨h1, _⟩ := hx.cells hf
  obtain ⟨ρ1, he1, hs1, hr1⟩ := rowsE_sound (cellsA x) (slE P 8 t) (n0 + 1) ρ bx' _ hs (fun k b hb => hnew k b (List.mem_append_left _ hb)) h1
  have hk : appE bx' (rowsE P (slE P 8 t) (cellsA x) (n0 + 1)).2 n0 = .nil := by
    rw [appE_other _ _ _ (fun b hb => by have := rowsE_keys hb; omega)]
    exact hnew n0 _ (List.mem_append_right _ (List.mem_singleton.2 rfl))
  obtain ⟨ρ2, hβ, he2, hs2⟩ := hs1.push hk t hr1
  rw [appE_append]
  exact ⟨ρ2, he1.trans he2, hs2, .ptr n0 0 _ (by show (setBox _ _ _ _).made; rw [bget_setBox, if_pos rfl]; trivial) (by rw [hβ])⟩
theorem box2_sound {P : Program} {o : Oper} {ev : Operand → AV} {bx : Bxs} {c : Option Bool} {r : AV} {e : List (Nat × Box)} {rd : List Nat} {t n : Nat} {x : Operand} (ho : o.op = .box t x)
    (h : boxF2 P t (ev x) n = some (c, r, e, rd)) : LocalOk P o ev bx r e rd := by
  unfold boxF2 at h
  split at h
  · rename_i hf
    simp only [Option.some.injEq, Prod.mk.injEq] at h
    obtain ⟨_, rfl, rfl, rfl⟩ := h
    refine LocalOk.run fun w ρ bx' a hag hnew hs hr => ?_
    have hx := hr x (by rw [ho]; simp [Op.operands])
    obtain ⟨ρ', k1, k2, k3⟩ := box2_run (P := P) (t := t) (n0 := n) hf hs hx (fun k b hb => (hnew k b hb).resolve_left (by simp))
    exact ⟨_, _, _, ρ', by simp [execOp, ho, Instr.box, newVar, newRow], .inl rfl, k1, k2, k3⟩
  · cases h
def allocF2 (P : Program) (t : TypeId) (n0 : Nat) : Res :=
  match zeroOf P t with
  | some z => boxF2 P t (ofV z) n0
  | none => none
theorem alloc2_sound {P : Program} {o : Oper} {ev : Operand → AV} {bx : Bxs} {c : Option Bool} {r : AV} {e : List (Nat × Box)} {rd : List Nat} {t n : Nat} (ho : o.op = .alloc t)
    (h : allocF2 P t n = some (c, r, e, rd)) : LocalOk P o ev bx r e rd := by
  unfold allocF2 at h
  split at h
  · rename_i z hz
    unfold boxF2 at h
    split at h
    · rename_i hf
      simp only [Option.some.injEq, Prod.mk.injEq] at h
      obtain ⟨_, rfl, rfl, rfl⟩ := h
      refine LocalOk.run fun w ρ bx' a hag hnew hs hr => ?_
      obtain ⟨ρ', k1, k2, k3⟩ := box2_run (P := P) (t := t) (n0 := n) hf hs (Rep_ofV z) (fun k b hb => (hnew k b hb).resolve_left (by simp))
      refine ⟨_, _, _, ρ', ?_, .inl rfl, k1, k2, k3⟩
      unfold zeroOf at hz
      cases hi : P.info? t with
      | none => rw [hi] at hz; cases hz
      | some i =>
        rw [hi] at hz
        simp only [Option.bind_some] at hz
        simp [execOp, ho, Instr.alloc, zeroValue, typeInfo, hi, hz, newVar, newRow]
    · cases h
  · cases h

/-- a struct value; its nil slices become rows -/
def buildF2 (P : Program) (t : TypeId) (qs : List (Nat × AV)) (n0 : Nat) : Res :=
  match buildF P t qs with
  | some (_, .agg cs, _, _) => some (none, .agg (rowsE P (slE P 8 t) cs n0).1, (rowsE P (slE P 8 t) cs n0).2, [])
  | _ => none
/-- the value is found with no box, then its nil slices become rows -/
theorem LocalOk.rows {P : Program} {o : Oper} {ev : Operand → AV} {bx : Bxs} {cs : List AV} {os : List (Option TypeId)} {n0 : Nat}
    (h : ∀ (w : World) (ρ : Env) (bx' : Nat → Box) (a : Act), SimB w ρ bx' → (∀ x, x ∈ o.op.operands → Rep w ρ bx' (a.eval x) (ev x)) → ∃ v', (execOp a.eval o).run P w = .ok (.value v') w ∧ Rep w ρ bx' v' (.agg cs)) :
    LocalOk P o ev bx (.agg (rowsE P os cs n0).1) (rowsE P os cs n0).2 [] := by
  refine LocalOk.run fun w ρ bx' a hag hnew hs hr => ?_
  obtain ⟨v', h1, h2⟩ := h w ρ bx' a hs hr
  obtain ⟨vs, rfl, h3⟩ := h2.inv_agg
  obtain ⟨ρ', k1, k2, k3⟩ := rowsE_sound (P := P) cs os n0 ρ bx' vs hs (fun k b hb => (hnew k b hb).resolve_left (by simp)) h3
  exact ⟨_, _, w, ρ', h1, .inl rfl, k1, k2, .agg vs _ k3.1 k3.2⟩
theorem build2_sound {P : Program} {o : Oper} {ev : Operand → AV} {bx : Bxs} {c : Option Bool} {r : AV} {e : List (Nat × Box)} {rd : List Nat} {t n0 : Nat} {ps : Array (Nat × Operand)} (ho : o.op = .build t ps)
    (h : buildF2 P t (ps.toList.map fun p => (p.1, ev p.2)) n0 = some (c, r, e, rd)) : LocalOk P o ev bx r e rd := by
  unfold buildF2 at h
  split at h
  · rename_i c0 cs e0 r0 hb
    simp only [Option.some.injEq, Prod.mk.injEq] at h
    obtain ⟨_, rfl, rfl, rfl⟩ := h
    exact LocalOk.rows fun w ρ bx' a _ hr => (build_run ho hb).2.2 w ρ bx' a hr
  · cases h

/-- a nil slice that is assigned becomes a row -/
def asgF (P : Program) (ty : TypeId) (x : AV) (n0 : Nat) : Res :=
  match x with
  | .e0 => match slT P ty with
    | some e => match Sig.ofId e with
      | some te => some (none, .row n0, [(n0, .row false e ⟨te, []⟩)], [])
      | none => some (none, x, [], [])
    | none => some (none, x, [], [])
  | _ => some (none, x, [], [])
theorem asg_sound {P : Program} {o : Oper} {ev : Operand → AV} {bx : Bxs} {c : Option Bool} {r : AV} {e : List (Nat × Box)} {rd : List Nat} {n0 : Nat} {x : Operand} (ho : o.op = .move x ∨ o.op = .assign x)
    (h : asgF P o.type (ev x) n0 = some (c, r, e, rd)) : LocalOk P o ev bx r e rd := by
  have plain : ∀ {c : Option Bool} {r : AV} {e : List (Nat × Box)} {rd : List Nat}, some (none, ev x, [], []) = some (c, r, e, rd) → LocalOk P o ev bx r e rd := fun h => by
    simp only [Option.some.injEq, Prod.mk.injEq] at h
    obtain ⟨_, rfl, rfl, rfl⟩ := h
    exact move_sound ho
  unfold asgF at h
  split at h
  · rename_i hx
    split at h
    · rename_i et het
      split at h
      · rename_i te hty
        simp only [Option.some.injEq, Prod.mk.injEq] at h
        obtain ⟨_, rfl, rfl, rfl⟩ := h
        refine LocalOk.run fun w ρ bx' a hag hnew hs hr => ?_
        have hxr := hr x (by rcases ho with ho | ho <;> rw [ho] <;> simp [Op.operands])
        rw [hx] at hxr
        obtain ⟨A, hv⟩ := hxr.inv_e0
        obtain ⟨ρ', k1, k2, k3⟩ := hs.nilRow ((hnew n0 _ (List.mem_singleton.2 rfl)).resolve_left (by simp)) et te A
        have := Rep.mkRow (k := n0) (full := false) (e := et) (q := ⟨te, []⟩) (by rw [bget_setBox, if_pos rfl]) k2
        rw [k3, ← hv] at this
        exact ⟨.value (a.eval x), a.eval x, w, ρ', by rcases ho with ho | ho <;> simp [execOp, ho], .inl rfl, k1, k2, this⟩
      · exact plain h
    · exact plain h
  · exact plain h
end Go.Cm
