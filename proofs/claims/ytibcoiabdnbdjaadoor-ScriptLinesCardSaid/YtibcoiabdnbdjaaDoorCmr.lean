/- The abstract machine, third state: maps that the code has made. No condition. -/
import Derived.Test.YtibcoiabdnbdjaaDoorCmf
import Derived.MapKept
import Derived.ChangeMaps5
namespace Go.Cm
open Go.RowKit Go.MapKept Go.ChangeMaps
set_option linter.unusedSectionVars false
variable [Sig]

def isMapB : Box → Bool
  | .map .. => true
  | .tab .. => true
  | .iter .. => true
  | _ => false
section
variable {w : World} {ρ : Env} {bx : Nat → Box}
theorem own_mapB {k : Nat} {b : Box} (hm : isMapB b = true) (h : bx k = b) : own ρ bx k = some (ρ.β k) := by
  unfold own
  rw [h]
  cases b <;> first | rfl | cases hm
/-- a new map -/
theorem SimB.pushM (h : SimB w ρ bx) {k : Nat} (hk : bx k = .nil) (ob : Obj) {b : Box} (hm : isMapB b = true) (hb : ∀ (w' : World) (ρ' : Env) (bx' : Nat → Box), w'.heap[ρ'.β k]? = some ob → SimBox w' ρ' bx' k b) :
    ∃ ρ' : Env, ρ'.β k = w.heap.size ∧ Ext w ρ bx (w.alloc ob) ρ' (setBox bx k b) ∧ SimB (w.alloc ob) ρ' (setBox bx k b) := by
  let ρ' : Env := ⟨fun j => if j = k then w.heap.size else ρ.β j, ρ.hd, ρ.A⟩
  have hβ : ∀ j, j ≠ k → ρ'.β j = ρ.β j := fun j hj => if_neg hj
  have hβk : ρ'.β k = w.heap.size := if_pos rfl
  have hbo : ∀ j, j ≠ k → (setBox bx k b) j = bx j := fun j hj => by rw [bget_setBox, if_neg hj]
  have hbk : (setBox bx k b) k = b := by rw [bget_setBox, if_pos rfl]
  have hoo : ∀ j, j ≠ k → own ρ' (setBox bx k b) j = own ρ bx j := fun j hj => own_other (hbo j hj) (hβ j hj) rfl
  have hok : own ρ' (setBox bx k b) k = some w.heap.size := by rw [own_mapB hm hbk, hβk]
  have hext : Ext w ρ bx (w.alloc ob) ρ' (setBox bx k b) := {
    below := (Below.refl _ _).alloc (Nat.zero_le _) _
    keep := fun c hc _ => Below.heap_alloc w _ c hc
    mutOld := fun c hc ⟨j, hj⟩ => by
      by_cases hjk : j = k
      · subst hjk; rw [hok] at hj; injection hj with hj; omega
      · rw [hoo j hjk] at hj; exact ⟨j, hj⟩
    env := fun j hmj => by
      have hjk : j ≠ k := fun e => by subst e; rw [hk] at hmj; exact hmj
      exact ⟨hβ j hjk, rfl, by rw [hbo j hjk]; exact hmj⟩
    A := rfl }
  refine ⟨ρ', hβk, hext, h.upd hext (fun j => ?_) (fun j j' c h1 h2 => ?_)⟩
  · by_cases hjk : j = k
    · subst hjk
      rw [hbk]
      exact .inr (hb _ _ _ (by rw [hβk]; exact heap_alloc_new w _))
    · exact .inl ⟨hbo j hjk, fun c hc => Below.heap_alloc w _ c (h.own_lt hc)⟩
  · by_cases hj : j = k <;> by_cases hj' : j' = k
    · rw [hj, hj']
    · subst hj; rw [hok] at h1; rw [hoo j' hj'] at h2; injection h1 with h1; have := h.own_lt h2; omega
    · subst hj'; rw [hok] at h2; rw [hoo j hj] at h1; injection h2 with h2; have := h.own_lt h1; omega
    · rw [hoo j hj] at h1; rw [hoo j' hj'] at h2; exact h.inj j j' c h1 h2
/-- a map is written -/
theorem SimB.writeM (h : SimB w ρ bx) {k : Nat} {b0 b : Box} (hk : bx k = b0) (hm0 : isMapB b0 = true) (hm : isMapB b = true) {es es' : Array MapEntry} {cl cl' : Nat} (he : w.heap[ρ.β k]? = some (.map es cl))
    (hb : Ext w ρ bx (setBlock w (ρ.β k) (.map es' cl')) ρ (setBox bx k b) → SimBox (setBlock w (ρ.β k) (.map es' cl')) ρ (setBox bx k b) k b) :
    Ext w ρ bx (setBlock w (ρ.β k) (.map es' cl')) ρ (setBox bx k b) ∧ SimB (setBlock w (ρ.β k) (.map es' cl')) ρ (setBox bx k b) := by
  have hbo : ∀ j, j ≠ k → (setBox bx k b) j = bx j := fun j hj => by rw [bget_setBox, if_neg hj]
  have hbk : (setBox bx k b) k = b := by rw [bget_setBox, if_pos rfl]
  have hko : own ρ bx k = some (ρ.β k) := own_mapB hm0 hk
  have hoo : ∀ j, own ρ (setBox bx k b) j = own ρ bx j := fun j => by
    by_cases hj : j = k
    · subst hj; rw [hko, own_mapB hm hbk]
    · exact own_other (hbo j hj) rfl rfl
  have hext : Ext w ρ bx (setBlock w (ρ.β k) (.map es' cl')) ρ (setBox bx k b) := {
    below := ⟨rfl, rfl, rfl, by simp [setBlock], fun b hb => absurd hb (Nat.not_lt_zero _)⟩
    keep := fun c hc hmu => heap_setBlock_other he _ (fun e => hmu ⟨k, by rw [hko, e]⟩)
    mutOld := fun c hc ⟨j, hj⟩ => ⟨j, by rw [← hoo j]; exact hj⟩
    env := fun j hmj => ⟨rfl, rfl, by
      by_cases hj : j = k
      · subst hj; rw [hbk]; cases b <;> first | trivial | cases hm
      · rw [hbo j hj]; exact hmj⟩
    A := rfl }
  refine ⟨hext, h.upd hext (fun j => ?_) (fun j j' c e1 e2 => ?_)⟩
  · by_cases hjk : j = k
    · subst hjk
      rw [hbk]
      exact .inr (hb hext)
    · exact .inl ⟨hbo j hjk, fun c hc => heap_setBlock_other he _ (fun e => hjk (h.inj j k c hc (by rw [hko, e])))⟩
  · rw [hoo] at e1 e2; exact h.inj j j' c e1 e2
end

/-! looking for a key -/
omit [Sig] in
theorem findNow_int {kd : IntKind} {z : Int} : ∀ (es : List MapEntry) (i : Nat), (∀ en, en ∈ es → ∃ y, en.key = .int kd y) →
    (lookE kd z es = none ∧ Instr.findNow (.int kd) (.int kd z) es i = some none) ∨
    ∃ j v, lookE kd z es = some v ∧ Instr.findNow (.int kd) (.int kd z) es i = some (some (i + j, v)) ∧ j < es.length ∧ (∃ en, es[j]? = some en ∧ en.key = .int kd z) ∧ ∀ v' y, lookE kd y (es.modify j fun e => { e with key := .int kd z, val := v' }) = if y = z then some v' else lookE kd y es
  | [], i, _ => .inl ⟨rfl, rfl⟩
  | en :: es, i, h => by
    obtain ⟨y0, hy⟩ := h en (by simp)
    by_cases hz : y0 = z
    · right
      refine ⟨0, en.val, by simp [lookE, hy, hz], by simp [Instr.findNow, Instr.sameNow, hy, hz], by simp, ⟨en, rfl, by rw [hy, hz]⟩, fun v' y => ?_⟩
      subst hz
      simp only [List.modify, List.modifyTailIdx, List.modifyTailIdx.go, List.modifyHead]
      by_cases e : y = y0
      · subst e
        simp [lookE]
      · simp [lookE, hy, e, Ne.symm e]
    · have hb : (z == y0) = false := by simp [Ne.symm hz]
      rcases findNow_int (z := z) es (i + 1) (fun e he => h e (by simp [he])) with ⟨h1, h2⟩ | ⟨j, v, h1, h2, h3, h4, h5⟩
      · left
        exact ⟨by simp [lookE, hy, hz, h1], by simp [Instr.findNow, Instr.sameNow, hy, hb, h2]⟩
      · right
        refine ⟨j + 1, v, by simp [lookE, hy, hz, h1], by simp [Instr.findNow, Instr.sameNow, hy, hb, h2]; omega, by simp; omega, by simpa using h4, fun v' y => ?_⟩
        have := h5 v' y
        simp only [List.modify_succ_cons, lookE, hy]
        by_cases e : y0 = y
        · subst e
          simp [hz]
        · simp [e, this]
omit [Sig] in
theorem lookE_push {kd : IntKind} {z : Int} {v : Value} {cl : Nat} : ∀ (es : List MapEntry) (y : Int), lookE kd z es = none → (∀ en, en ∈ es → ∃ y, en.key = .int kd y) → lookE kd y (es ++ [{ key := .int kd z, val := v, born := cl }]) = if y = z then some v else lookE kd y es
  | [], y, _, _ => by
    by_cases e : y = z
    · simp [lookE, e]
    · simp [lookE, e, Ne.symm e]
  | en :: es, y, h, hk => by
    obtain ⟨y0, hy⟩ := hk en (by simp)
    have hz : y0 ≠ z := fun e => by simp [lookE, hy, e] at h
    have h' : lookE kd z es = none := by simpa [lookE, hy, hz] using h
    have := lookE_push (v := v) (cl := cl) es y h' (fun e he => hk e (by simp [he]))
    simp only [List.cons_append, lookE, hy]
    by_cases e : y0 = y
    · subst e
      simp [hz]
    · simp [e, this]

/-! the operations -/
def mapT (P : Program) (t : TypeId) : Option (IntKind × TypeId × TypeId) :=
  match P.underlying t with
  | some (.map k el) => match P.underlying k with
    | some (.int kd) => some (kd, k, el)
    | _ => none
  | _ => none
theorem mapT_spec {P : Program} {t : TypeId} {kd : IntKind} {k el : TypeId} (h : mapT P t = some (kd, k, el)) : P.underlying t = some (.map k el) ∧ P.underlying k = some (.int kd) := by
  unfold mapT at h
  split at h
  · rename_i k' el' h1
    split at h
    · rename_i kd' h2
      simp only [Option.some.injEq, Prod.mk.injEq] at h
      obtain ⟨rfl, rfl, rfl⟩ := h
      exact ⟨h1, h2⟩
    · cases h
  · cases h
def makeMapF (P : Program) (t : TypeId) (rs : Option AV) (n : Nat) : Res :=
  match rs, mapT P t with
  | none, some (kd, _, el) => match Sig.ofId el with
    | some e => some (none, .mp n, [(n, .map kd e fun _ => none)], [])
    | none => none
  | _, _ => none
theorem makeMap_sound {P : Program} {o : Oper} {ev : Operand → AV} {bx : Bxs} {c : Option Bool} {r : AV} {e : List (Nat × Box)} {rd : List Nat} {t n : Nat} {rs : Option Operand} (ho : o.op = .makeMap t rs)
    (h : makeMapF P t (rs.map ev) n = some (c, r, e, rd)) : LocalOk P o ev bx r e rd := by
  unfold makeMapF at h
  split at h
  · rename_i kd k el hrs hm
    cases rs with
    | some x => cases hrs
    | none =>
    split at h
    · rename_i ee hoe
      simp only [Option.some.injEq, Prod.mk.injEq] at h
      obtain ⟨_, rfl, rfl, rfl⟩ := h
      refine LocalOk.run fun w ρ bx' a hag hnew hs hr => ?_
      have hk : bx' n = .nil := (hnew n (.map kd ee fun _ => none) (by simp)).resolve_left (by simp)
      obtain ⟨ρ', hβ, he, hs'⟩ := hs.pushM hk (.map #[] 0) (b := .map kd ee fun _ => none) rfl (fun w' ρ' bx' hh => ⟨#[], 0, hh, fun en hen => by simp at hen, fun z => trivial⟩)
      refine ⟨_, .map (some w.heap.size), _, ρ', ?_, .inl rfl, he, hs', .mp n _ (by show (setBox _ _ _ _).made; rw [bget_setBox, if_pos rfl]; trivial) (by rw [hβ])⟩
      have : (Instr.makeMap t none).run P w = .ok (.map (some w.heap.size)) (w.alloc (.map #[] 0)) := rfl
      simp [execOp, ho, this]
    · cases h
  · cases h
/-! the value of an absent key -/
def zeroIs1 : Value → Tree → Bool
  | .int k a, .lit (.int k' b) => decide (k = k') && decide (a = b)
  | .bool a, .lit (.bool b) => a == b
  | .string a, .lit (.string b) => decide (a.data.toList = b.data.toList)
  | .slice none 0 0, .sl q => q.l.isEmpty
  | _, _ => false
def zeroIsL : List Value → List Tree → Bool
  | [], [] => true
  | v :: vs, t :: ts => zeroIs1 v t && zeroIsL vs ts
  | _, _ => false
def aggV : Value → Bool
  | .agg _ => true
  | _ => false
def zeroIs (P : Program) (el : TypeId) (e : Sig.TI) : Bool :=
  match zeroOf P el with
  | some z => zeroIsL z.cells.toList (Sig.enc e (Sig.dft e)) && (Sig.isAgg e == aggV z) && (aggV z || z.oneCell')
  | none => false
theorem zeroIs1_rep {w : World} {ok : Nat → Prop} {v : Value} {t : Tree} (h : zeroIs1 v t = true) : RepT w ok v t := by
  unfold zeroIs1 at h
  split at h
  · simp only [Bool.and_eq_true, decide_eq_true_eq] at h
    rw [h.1, h.2]; exact .lit _
  · rw [eq_of_beq h]; exact .lit _
  · rename_i a b
    have : a = b := by
      obtain ⟨⟨a⟩⟩ := a
      obtain ⟨⟨b⟩⟩ := b
      have := of_decide_eq_true h
      simp only at this
      rw [this]
    rw [this]; exact .lit _
  · rename_i q
    have hq : q.l = [] := List.isEmpty_iff.1 h
    have hn : q.n = 0 := by simp [RowOf.n, hq]
    exact .sl none 0 0 q (fun _ _ => undef) hn (Nat.le_refl _) (Nat.zero_le _) (fun i j h => by omega) (fun i j h => by omega) (fun i j t h => by omega)
  · cases h
theorem zeroIsL_rep {w : World} {ok : Nat → Prop} : ∀ {vs : List Value} {ts : List Tree}, zeroIsL vs ts = true → RepTL w ok vs ts
  | [], [], _ => ⟨rfl, fun i v t h => by simp at h⟩
  | [], _ :: _, h => by cases h
  | _ :: _, [], h => by cases h
  | v :: vs, t :: ts, h => by
    simp only [zeroIsL, Bool.and_eq_true] at h
    have ih := zeroIsL_rep (w := w) (ok := ok) h.2
    refine ⟨by simp [ih.1], fun i v' t' h1 h2 => ?_⟩
    match i, h1, h2 with
    | 0, h1, h2 => simp at h1 h2; subst h1; subst h2; exact zeroIs1_rep h.1
    | i + 1, h1, h2 => exact ih.2 i v' t' (by simpa using h1) (by simpa using h2)
theorem ValIs.rep {w : World} {ρ : Env} {bx : Nat → Box} {e : Sig.TI} {v : Value} {x : Sig.Car e} (h : ValIs w (okS ρ bx) e v x) : Rep w ρ bx v (avT e ((Sig.enc e x).map ofTree)) := by
  have hl : RepL w ρ bx v.cells.toList ((Sig.enc e x).map ofTree) := ⟨by rw [List.length_map]; exact h.1.1, fun i v' t' h1 h2 => by
    rw [List.getElem?_map] at h2
    cases h3 : (Sig.enc e x)[i]? with
    | none => rw [h3] at h2; cases h2
    | some t => rw [h3] at h2; simp at h2; subst h2; exact Rep_ofTree (h.1.2 i v' t h1 h3)⟩
  refine avT_rep (vs := v.cells.toList) ?_ hl
  rcases h.2 with ⟨h1, vs, rfl⟩ | ⟨h1, h2⟩
  · exact .inl ⟨h1, rfl⟩
  · exact .inr ⟨h1, cells_of_one h2⟩

def lookupF (P : Program) (t : TypeId) (x i : AV) (ok : Bool) (bx : Bxs) : Res :=
  match x, i, mapT P t with
  | .mp k, .lit (.int kd' z), some (kd, _, el) => match bget bx k with
    | .map kb e f => match decide (kd' = kd) && decide (kb = kd) && zeroIs P el e, ok with
      | true, false => some (none, avT e ((Sig.enc e ((f z).getD (Sig.dft e))).map ofTree), [], [k])
      | true, true => some (none, .tup [avT e ((Sig.enc e ((f z).getD (Sig.dft e))).map ofTree), .lit (.bool (f z).isSome)], [], [k])
      | _, _ => none
    | _ => none
  | _, _, _ => none
theorem look_run {P : Program} {t : TypeId} {kd : IntKind} {kt el : TypeId} (hm : mapT P t = some (kd, kt, el)) {e : Sig.TI} {f : Int → Option (Sig.Car e)} (hz : zeroIs P el e = true) {w : World} {ok : Nat → Prop} {r : Nat} {es : Array MapEntry} {cl : Nat} (hh : w.heap[r]? = some (.map es cl))
    (hks : ∀ en, en ∈ es.toList → ∃ y, en.key = .int kd y) (hE : ∀ z, EntIs w ok e (lookE kd z es.toList) (f z)) (z : Int) :
    ∃ v, (∀ c : Bool, (Instr.lookup t (.map (some r)) (.int kd z) c).run P w = .ok (if c then .tuple #[v, .bool (f z).isSome] else v) w) ∧ ValIs w ok e v ((f z).getD (Sig.dft e)) := by
  obtain ⟨h1, h2⟩ := mapT_spec hm
  have hkey : IsKey (.int kd) (.int kd z) := by simp [IsKey]
  have hEz := hE z
  unfold zeroIs at hz
  cases hzo : zeroOf P el with
  | none => rw [hzo] at hz; cases hz
  | some zv =>
    rw [hzo] at hz
    simp only [Bool.and_eq_true, beq_iff_eq] at hz
    rcases findNow_int (z := z) es.toList 0 hks with ⟨g1, g2⟩ | ⟨j, v, g1, g2, _⟩
    · rw [g1] at hEz
      have hf : f z = none := by
        cases hf : f z with
        | none => rfl
        | some x => rw [hf] at hEz; exact hEz.elim
      refine ⟨zv, fun c => ?_, ?_⟩
      · have hzr : (zeroValue el).run P w = .ok zv w := by
          unfold zeroOf at hzo
          cases hi : P.info? el with
          | none => rw [hi] at hzo; cases hzo
          | some i => rw [hi] at hzo; simp only [Option.bind_some] at hzo; simp [zeroValue, typeInfo, hi, hzo]
        rw [hf]
        cases c <;> simp [Instr.lookup, run_underlying h1, MapKept.run_getObj_map hh, run_checkKey h2 hkey, run_findKey h2 g2, hzr, Result.andThen]
      · rw [hf]
        refine ⟨zeroIsL_rep hz.1.1, ?_⟩
        rw [hz.1.2]
        have hz3 := hz.2
        cases zv <;> first | exact .inl ⟨rfl, _, rfl⟩ | exact .inr ⟨rfl, rfl⟩ | exact .inr ⟨rfl, hz3⟩
    · rw [g1] at hEz
      cases hf : f z with
      | none => rw [hf] at hEz; exact hEz.elim
      | some x =>
        rw [hf] at hEz
        refine ⟨v, fun c => ?_, hEz⟩
        cases c <;> simp [Instr.lookup, run_underlying h1, MapKept.run_getObj_map hh, run_checkKey h2 hkey, run_findKey h2 g2, Result.andThen]
theorem lookup_sound {P : Program} {o : Oper} {ev : Operand → AV} {bx : Bxs} {c : Option Bool} {r : AV} {ed : List (Nat × Box)} {rd : List Nat} {t : Nat} {x i : Operand} {ok : Bool} (ho : o.op = .lookup t x i ok)
    (h : lookupF P t (ev x) (ev i) ok bx = some (c, r, ed, rd)) : LocalOk P o ev bx r ed rd := by
  unfold lookupF at h
  split at h
  · rename_i k kd' z kd kt el hx hi hm
    split at h
    · rename_i kb e f hb
      have key : (decide (kd' = kd) && decide (kb = kd) && zeroIs P el e) = true → ∀ (w : World) (ρ : Env) (bx' : Nat → Box) (a : Act), (∀ j, j ∈ [k] → bx' j = bget bx j) → SimB w ρ bx' → (∀ y, y ∈ o.op.operands → Rep w ρ bx' (a.eval y) (ev y)) →
          ∃ v, (∀ c : Bool, (Instr.lookup t (a.eval x) (a.eval i) c).run P w = .ok (if c then .tuple #[v, .bool (f z).isSome] else v) w) ∧ ValIs w (okS ρ bx') e v ((f z).getD (Sig.dft e)) := by
        intro hc w ρ bx' a hag hs hr
        simp only [Bool.and_eq_true, decide_eq_true_eq] at hc
        obtain ⟨⟨rfl, rfl⟩, hz⟩ := hc
        have r1 := hr x (by rw [ho]; simp [Op.operands])
        have r2 := hr i (by rw [ho]; simp [Op.operands])
        rw [hx] at r1
        rw [hi] at r2
        have hsb := hs.box k
        rw [hag k (by simp), hb] at hsb
        obtain ⟨es, cl, g1, g2, g3⟩ := hsb
        rw [r1.inv_mp.2, r2.inv_lit]
        exact look_run hm hz g1 g2 g3 z
      split at h
      · rename_i hc
        simp only [Option.some.injEq, Prod.mk.injEq] at h
        obtain ⟨_, rfl, rfl, rfl⟩ := h
        refine LocalOk.pure fun w ρ bx' a hag hs hr => ?_
        obtain ⟨v, h1, h2⟩ := key hc w ρ bx' a hag hs hr
        exact ⟨v, by simp [execOp, ho, h1 false], h2.rep⟩
      · rename_i hc
        simp only [Option.some.injEq, Prod.mk.injEq] at h
        obtain ⟨_, rfl, rfl, rfl⟩ := h
        refine LocalOk.pure fun w ρ bx' a hag hs hr => ?_
        obtain ⟨v, h1, h2⟩ := key hc w ρ bx' a hag hs hr
        refine ⟨.tuple #[v, .bool (f z).isSome], by simp [execOp, ho, h1 true], .tup [v, .bool (f z).isSome] _ rfl fun j v' t' e1 e2 => ?_⟩
        match j, e1, e2 with
        | 0, e1, e2 => simp at e1 e2; subst e1; subst e2; exact h2.rep
        | 1, e1, e2 => simp at e1 e2; subst e1; subst e2; exact .lit _
        | j + 2, e1, _ => simp at e1
      · cases h
    · cases h
  · cases h

/-! writing -/
def litT : AV → Option Tree
  | .lit v => some (.lit v)
  | .sl q => some (.sl q)
  | _ => none
def litTs : List AV → Option (List Tree)
  | [] => some []
  | a :: as => match litT a, litTs as with
    | some t, some ts => some (t :: ts)
    | _, _ => none
theorem litTs_rep {w : World} {ρ : Env} {bx : Nat → Box} : ∀ {as : List AV} {ts : List Tree} {vs : List Value}, litTs as = some ts → RepL w ρ bx vs as → RepTL w (okS ρ bx) vs ts
  | [], ts, vs, h, hr => by
    cases h
    exact ⟨hr.1, fun i v t _ h2 => by simp at h2⟩
  | a :: as, ts, vs, h, hr => by
    simp only [litTs] at h
    split at h
    · rename_i t ts' h1 h2
      cases h
      match vs, hr with
      | [], hr => cases hr.1
      | v :: vs, hr =>
        have ih := litTs_rep (w := w) (ρ := ρ) (bx := bx) (vs := vs) h2 ⟨by simpa using hr.1, fun i v' t' e1 e2 => hr.2 (i + 1) v' t' (by simpa using e1) (by simpa using e2)⟩
        refine ⟨by simp [ih.1], fun i v' t' e1 e2 => ?_⟩
        match i, e1, e2 with
        | 0, e1, e2 =>
          simp at e1 e2
          subst e1; subst e2
          have r0 := hr.2 0 v a rfl rfl
          cases a <;> simp only [litT] at h1 <;> first | cases h1 | skip
          · rw [r0.inv_lit]; exact .lit _
          · exact r0.inv_sl
        | i + 1, e1, e2 => exact ih.2 i v' t' (by simpa using e1) (by simpa using e2)
    · cases h
def mapUpdF (P : Program) (t : TypeId) (x i y : AV) (bx : Bxs) : Res :=
  match x, i, mapT P t with
  | .mp k, .lit (.int kd' z), some (kd, _, _) => match bget bx k with
    | .map kb e f => match decide (kd' = kd) && decide (kb = kd) && y.fit, Sig.isAgg e, y with
      | true, true, .agg cs => match litTs cs with
        | some ts => match fits (Sig.shp e) ts with
          | true => some (none, .dead, [(k, .map kb e fun u => bif u == z then some (Sig.dec e ts) else f u)], [k])
          | false => none
        | none => none
      | true, false, y => match litTs [y] with
        | some ts => match fits (Sig.shp e) ts with
          | true => some (none, .dead, [(k, .map kb e fun u => bif u == z then some (Sig.dec e ts) else f u)], [k])
          | false => none
        | none => none
      | _, _, _ => none
    | _ => none
  | _, _, _ => none
theorem upd_core {P : Program} {t : TypeId} {kd : IntKind} {kt el : TypeId} (hm : mapT P t = some (kd, kt, el)) {w : World} {ρ : Env} {bx : Nat → Box} (hs : SimB w ρ bx) {k : Nat} {e : Sig.TI} {f : Int → Option (Sig.Car e)} (hb : bx k = .map kd e f) {z : Int} {v : Value} {x : Sig.Car e}
    (hv : ValIs w (okS ρ bx) e v x) : ∃ w', (Instr.mapUpdate t (.map (some (ρ.β k))) (.int kd z) v).run P w = .ok () w' ∧ Ext w ρ bx w' ρ (setBox bx k (.map kd e fun u => bif u == z then some x else f u)) ∧ SimB w' ρ (setBox bx k (.map kd e fun u => bif u == z then some x else f u)) := by
  obtain ⟨h1, h2⟩ := mapT_spec hm
  have hkey : IsKey (.int kd) (.int kd z) := by simp [IsKey]
  have hsb := hs.box k
  rw [hb] at hsb
  obtain ⟨es, cl, g1, g2, g3⟩ := hsb
  have fin : ∀ (es' : Array MapEntry) (cl' : Nat), (∀ en, en ∈ es'.toList → ∃ y, en.key = .int kd y) → (∀ y, lookE kd y es'.toList = if y = z then some v else lookE kd y es.toList) →
      Ext w ρ bx (setBlock w (ρ.β k) (.map es' cl')) ρ (setBox bx k (.map kd e fun u => bif u == z then some x else f u)) ∧ SimB (setBlock w (ρ.β k) (.map es' cl')) ρ (setBox bx k (.map kd e fun u => bif u == z then some x else f u)) := fun es' cl' hk' hl' =>
    hs.writeM hb rfl rfl g1 fun hext => ⟨es', cl', heap_setBlock_same g1 _, hk', fun y => by
      rw [hl' y]
      by_cases hy : y = z
      · subst hy
        simp only [if_true, beq_self_eq_true, cond_true]
        exact EntIs.ext (v := some v) (x := some x) hext.ok hv
      · have : (y == z) = false := by simpa using hy
        have e2 : (fun u => bif u == z then some x else f u) y = f y := by simp only [this, cond_false]
        rw [if_neg hy, e2]
        exact (g3 y).ext hext.ok⟩
  rcases findNow_int (z := z) es.toList 0 g2 with ⟨q1, q2⟩ | ⟨j, v0, q1, q2, q3, ⟨en, q4, q5⟩, q6⟩
  · refine ⟨_, ?_, fin (es.push { key := .int kd z, val := v, born := cl }) (cl + 1) (fun en hen => ?_) (fun y => ?_)⟩
    · simp [Instr.mapUpdate, run_underlying h1, MapKept.run_getObj_map g1, run_checkKey h2 hkey, run_findKey h2 q2, MapKept.run_setObj_map _ g1, Result.andThen, setBlock]
    · simp only [Array.toList_push, List.mem_append, List.mem_singleton] at hen
      rcases hen with hen | rfl
      · exact g2 en hen
      · exact ⟨z, rfl⟩
    · rw [Array.toList_push]
      exact lookE_push es.toList y q1 g2
  · rw [Nat.zero_add] at q2
    have hj : es[j]? = some en := by simpa using q4
    refine ⟨_, ?_, fin (es.modify j fun e => { e with key := .int kd z, val := v }) cl (fun en' hen => ?_) (fun y => ?_)⟩
    · simp [Instr.mapUpdate, run_underlying h1, MapKept.run_getObj_map g1, run_checkKey h2 hkey, run_findKey h2 q2, hj, q5, run_keyThatStays hkey, MapKept.run_setObj_map _ g1, Result.andThen, setBlock]
    · rw [Array.toList_modify] at hen
      obtain ⟨i, hi⟩ := List.mem_iff_getElem?.1 hen
      rw [List.getElem?_modify] at hi
      cases h4 : es.toList[i]? with
      | none => rw [h4] at hi; cases hi
      | some e0 =>
        rw [h4] at hi
        simp only [Option.map_eq_map, Option.map_some, Option.some.injEq] at hi
        by_cases hij : j = i
        · rw [if_pos hij] at hi; subst hi; exact ⟨z, rfl⟩
        · rw [if_neg hij] at hi; subst hi; exact g2 _ (List.mem_of_getElem? h4)
    · rw [Array.toList_modify]
      exact q6 v y
theorem mapUpd_sound {P : Program} {o : Oper} {ev : Operand → AV} {bx : Bxs} {c : Option Bool} {r : AV} {ed : List (Nat × Box)} {rd : List Nat} {t : Nat} {x i y : Operand} (ho : o.op = .mapUpdate t x i y ∨ o.op = .insert t x i y)
    (h : mapUpdF P t (ev x) (ev i) (ev y) bx = some (c, r, ed, rd)) : LocalOk P o ev bx r ed rd := by
  have hops : ∀ u, u = x ∨ u = i ∨ u = y → u ∈ o.op.operands := fun u hu => by
    rcases ho with ho | ho <;> rw [ho] <;> simp [Op.operands] <;> simpa using hu
  unfold mapUpdF at h
  split at h
  · rename_i k kd' z kd kt el hx hi hm
    split at h
    · rename_i kb e f hb
      have key : (decide (kd' = kd) && decide (kb = kd) && (ev y).fit) = true → ∀ ts : List Tree, fits (Sig.shp e) ts = true →
          (∀ (w : World) (ρ : Env) (bx' : Nat → Box) (v : Value), Rep w ρ bx' v (ev y) → ValIs w (okS ρ bx') e v (Sig.dec e ts)) → LocalOk P o ev bx .dead [(k, .map kb e fun u => bif u == z then some (Sig.dec e ts) else f u)] [k] := by
        intro hc ts hts hV
        simp only [Bool.and_eq_true, decide_eq_true_eq] at hc
        obtain ⟨⟨rfl, rfl⟩, hfit⟩ := hc
        refine LocalOk.run fun w ρ bx' a hag hnew hs hr => ?_
        have r1 := hr x (hops x (.inl rfl))
        have r2 := hr i (hops i (.inr (.inl rfl)))
        have r3 := hr y (hops y (.inr (.inr rfl)))
        rw [hx] at r1
        rw [hi] at r2
        have hbk := hag k (by simp)
        rw [hb] at hbk
        obtain ⟨w', g1, g2, g3⟩ := upd_core hm hs hbk (z := z) (hV w ρ bx' _ r3)
        refine ⟨.skip, undef, w', ρ, ?_, .inr ⟨rfl, rfl⟩, g2, g3, .dead _⟩
        rcases ho with ho | ho <;> simp [execOp, ho, r1.inv_mp.2, r2.inv_lit, g1]
      split at h
      · rename_i cs hc hag hy
        split at h
        · rename_i ts hts
          split at h
          · rename_i hf
            simp only [Option.some.injEq, Prod.mk.injEq] at h
            obtain ⟨_, rfl, rfl, rfl⟩ := h
            refine key hc ts hf fun w ρ bx' v hr => ?_
            rw [hy] at hr
            obtain ⟨vs, rfl, hvs⟩ := hr.inv_agg
            exact ⟨by rw [Sig.enc_dec _ _ hf]; exact litTs_rep hts hvs, .inl ⟨hag, vs, rfl⟩⟩
          · cases h
        · cases h
      · rename_i y' hc hag
        split at h
        · rename_i ts hts
          split at h
          · rename_i hf
            simp only [Option.some.injEq, Prod.mk.injEq] at h
            obtain ⟨_, rfl, rfl, rfl⟩ := h
            refine key hc ts hf fun w ρ bx' v hr => ?_
            have hone : (ev y).one = true := by
              generalize ev y = q at hts hc
              cases q <;> simp [litTs, litT] at hts <;> first | rfl | (simp only [Bool.and_eq_true] at hc; exact hc.2)
            have hv1 := hr.isOne hone
            refine ⟨?_, .inr ⟨hag, hv1⟩⟩
            rw [Sig.enc_dec _ _ hf, cells_of_one hv1]
            refine litTs_rep hts ⟨rfl, fun j v' t' e1 e2 => ?_⟩
            match j, e1, e2 with
            | 0, e1, e2 => simp at e1 e2; subst e1; subst e2; exact hr
            | j + 1, e1, _ => simp at e1
          · cases h
        · cases h
      · cases h
    · cases h
  · cases h

/-! tables: keys are literal strings -/
def tabT (P : Program) (t : TypeId) : Option (TypeId × TypeId) :=
  match P.underlying t with
  | some (.map k el) => match P.underlying k with
    | some .string => some (k, el)
    | _ => none
  | _ => none
theorem tabT_spec {P : Program} {t k el : TypeId} (h : tabT P t = some (k, el)) : P.underlying t = some (.map k el) ∧ P.underlying k = some .string := by
  unfold tabT at h
  split at h
  · rename_i k' el' h1
    split at h
    · rename_i h2
      simp only [Option.some.injEq, Prod.mk.injEq] at h
      obtain ⟨rfl, rfl⟩ := h
      exact ⟨h1, h2⟩
    · cases h
  · cases h
def makeTabF (P : Program) (t : TypeId) (rs : Option AV) (n : Nat) : Res :=
  match rs, tabT P t with
  | none, some _ => some (none, .mp n, [(n, .tab [])], [])
  | _, _ => none
theorem makeTab_sound {P : Program} {o : Oper} {ev : Operand → AV} {bx : Bxs} {c : Option Bool} {r : AV} {e : List (Nat × Box)} {rd : List Nat} {t n : Nat} {rs : Option Operand} (ho : o.op = .makeMap t rs)
    (h : makeTabF P t (rs.map ev) n = some (c, r, e, rd)) : LocalOk P o ev bx r e rd := by
  unfold makeTabF at h
  split at h
  · rename_i k hrs hm
    cases rs with
    | some x => cases hrs
    | none =>
    simp only [Option.some.injEq, Prod.mk.injEq] at h
    obtain ⟨_, rfl, rfl, rfl⟩ := h
    refine LocalOk.run fun w ρ bx' a hag hnew hs hr => ?_
    have hk : bx' n = .nil := (hnew n (.tab []) (by simp)).resolve_left (by simp)
    obtain ⟨ρ', hβ, he, hs'⟩ := hs.pushM hk (.map #[] 0) (b := .tab []) rfl (fun w' ρ' bx' hh => ⟨#[], 0, hh, rfl, rfl, fun i v t h => by simp at h⟩)
    refine ⟨_, .map (some w.heap.size), _, ρ', ?_, .inl rfl, he, hs', .mp n _ (by show (setBox _ _ _ _).made; rw [bget_setBox, if_pos rfl]; trivial) (by rw [hβ])⟩
    have : (Instr.makeMap t none).run P w = .ok (.map (some w.heap.size)) (w.alloc (.map #[] 0)) := rfl
    simp [execOp, ho, this]
  · cases h
def lookS (s : ByteArray) : List (ByteArray × AV) → Option AV
  | [] => none
  | (u, a) :: r => bif decide (s.data.toList = u.data.toList) then some a else lookS s r
omit [Sig] in
theorem bytes_eq {a b : ByteArray} : a.data.toList = b.data.toList ↔ a = b := by
  constructor
  · intro h
    obtain ⟨⟨a⟩⟩ := a
    obtain ⟨⟨b⟩⟩ := b
    simp only at h
    rw [h]
  · intro h; rw [h]
theorem findNow_str {s : ByteArray} : ∀ (ts : List (ByteArray × AV)) (es : List MapEntry) (i : Nat), es.map (·.key) = ts.map (fun p => Value.string p.1) →
    (lookS s ts = none ∧ Instr.findNow .string (.string s) es i = some none) ∨ ∃ j a en, lookS s ts = some a ∧ Instr.findNow .string (.string s) es i = some (some (i + j, en.val)) ∧ es[j]? = some en ∧ (ts.map (·.2))[j]? = some a
  | [], [], i, _ => .inl ⟨rfl, rfl⟩
  | [], _ :: _, _, h => by simp at h
  | _ :: _, [], _, h => by simp at h
  | (u, a) :: ts, en :: es, i, h => by
    simp only [List.map_cons, List.cons.injEq] at h
    obtain ⟨h1, h2⟩ := h
    by_cases hs : s = u
    · subst hs
      right
      have hb2 : (s == s) = true := (MapKept.bytes_beq s s).2 rfl
      exact ⟨0, a, en, by simp only [lookS, decide_true, cond_true], by simp only [Instr.findNow, Instr.sameNow, h1, hb2, Nat.add_zero], rfl, rfl⟩
    · have hb : decide (s.data.toList = u.data.toList) = false := by simp only [decide_eq_false_iff_not, bytes_eq]; exact hs
      have hb2 : (s == u) = false := by
        cases hq : s == u
        · rfl
        · exact absurd ((MapKept.bytes_beq s u).1 hq) hs
      rcases findNow_str (s := s) ts es (i + 1) h2 with ⟨g1, g2⟩ | ⟨j, a', en', g1, g2, g3, g4⟩
      · exact .inl ⟨by simp only [lookS, hb, g1, cond_false], by simp only [Instr.findNow, Instr.sameNow, h1, hb2, g2]⟩
      · exact .inr ⟨j + 1, a', en', by simp only [lookS, hb, g1, cond_false], by simp only [Instr.findNow, Instr.sameNow, h1, hb2, g2, Option.some.injEq, Prod.mk.injEq, and_true]; omega, by simpa using g3, by simpa using g4⟩
def lookTabF (P : Program) (t : TypeId) (x i : AV) (ok : Bool) (bx : Bxs) : Res :=
  match x, i, tabT P t, ok with
  | .mp k, .lit (.string s), some _, false => match bget bx k with
    | .tab ts => match lookS s ts with
      | some a => some (none, a, [], [k])
      | none => none
    | _ => none
  | _, _, _, _ => none
theorem lookTab_sound {P : Program} {o : Oper} {ev : Operand → AV} {bx : Bxs} {c : Option Bool} {r : AV} {ed : List (Nat × Box)} {rd : List Nat} {t : Nat} {x i : Operand} {ok : Bool} (ho : o.op = .lookup t x i ok)
    (h : lookTabF P t (ev x) (ev i) ok bx = some (c, r, ed, rd)) : LocalOk P o ev bx r ed rd := by
  unfold lookTabF at h
  split at h
  · rename_i k s q hx hi hm
    split at h
    · rename_i ts hb
      split at h
      · rename_i a0 hl
        simp only [Option.some.injEq, Prod.mk.injEq] at h
        obtain ⟨_, rfl, rfl, rfl⟩ := h
        obtain ⟨kt, el⟩ := q
        obtain ⟨h1, h2⟩ := tabT_spec hm
        refine LocalOk.pure fun w ρ bx' a hag hs hr => ?_
        have r1 := hr x (by rw [ho]; simp [Op.operands])
        have r2 := hr i (by rw [ho]; simp [Op.operands])
        rw [hx] at r1
        rw [hi] at r2
        have hsb := hs.box k
        rw [hag k (by simp), hb] at hsb
        obtain ⟨es, cl, g1, g2, g3⟩ := hsb
        have hkey : IsKey .string (.string s) := by simp [IsKey]
        rcases findNow_str (s := s) ts es.toList 0 g2 with ⟨q1, _⟩ | ⟨j, a', en, q1, q2, q3, q4⟩
        · rw [q1] at hl; cases hl
        · rw [q1] at hl
          injection hl with hl
          subst hl
          refine ⟨en.val, ?_, g3.2 j en.val a' (by rw [List.getElem?_map, q3]; rfl) q4⟩
          have : (Instr.lookup t (.map (some (ρ.β k))) (.string s) false).run P w = .ok en.val w := by
            simp [Instr.lookup, run_underlying h1, MapKept.run_getObj_map g1, run_checkKey h2 hkey, run_findKey h2 q2, Result.andThen]
          simp [execOp, ho, r1.inv_mp.2, r2.inv_lit, this]
      · cases h
    · cases h
  · cases h
def updTabF (P : Program) (t : TypeId) (x i y : AV) (bx : Bxs) : Res :=
  match x, i, tabT P t with
  | .mp k, .lit (.string s), some _ => match bget bx k with
    | .tab ts => match lookS s ts with
      | none => some (none, .dead, [(k, .tab (ts ++ [(s, y)]))], [k])
      | some _ => none
    | _ => none
  | _, _, _ => none
theorem updTab_sound {P : Program} {o : Oper} {ev : Operand → AV} {bx : Bxs} {c : Option Bool} {r : AV} {ed : List (Nat × Box)} {rd : List Nat} {t : Nat} {x i y : Operand} (ho : o.op = .mapUpdate t x i y ∨ o.op = .insert t x i y)
    (h : updTabF P t (ev x) (ev i) (ev y) bx = some (c, r, ed, rd)) : LocalOk P o ev bx r ed rd := by
  have hops : ∀ u, u = x ∨ u = i ∨ u = y → u ∈ o.op.operands := fun u hu => by
    rcases ho with ho | ho <;> rw [ho] <;> simp [Op.operands] <;> simpa using hu
  unfold updTabF at h
  split at h
  · rename_i k s q hx hi hm
    split at h
    · rename_i ts hb
      split at h
      · rename_i hl
        simp only [Option.some.injEq, Prod.mk.injEq] at h
        obtain ⟨_, rfl, rfl, rfl⟩ := h
        obtain ⟨kt, el⟩ := q
        obtain ⟨h1, h2⟩ := tabT_spec hm
        refine LocalOk.run fun w ρ bx' a hag hnew hs hr => ?_
        have r1 := hr x (hops x (.inl rfl))
        have r2 := hr i (hops i (.inr (.inl rfl)))
        have r3 := hr y (hops y (.inr (.inr rfl)))
        rw [hx] at r1
        rw [hi] at r2
        have hbk := hag k (by simp)
        rw [hb] at hbk
        have hsb := hs.box k
        rw [hbk] at hsb
        obtain ⟨es, cl, g1, g2, g3⟩ := hsb
        have hkey : IsKey .string (.string s) := by simp [IsKey]
        rcases findNow_str (s := s) ts es.toList 0 g2 with ⟨_, q2⟩ | ⟨j, a', en, q1, _⟩
        · obtain ⟨e1, e2⟩ := hs.writeM (b := .tab (ts ++ [(s, ev y)])) (es' := es.push { key := .string s, val := a.eval y, born := cl }) (cl' := cl + 1) hbk rfl rfl g1 fun hext => ⟨_, _, heap_setBlock_same g1 _, by simp [g2], by
            simp only [Array.toList_push, List.map_append, List.map_cons, List.map_nil]
            refine RepL.append (g3.ext hext) ⟨rfl, fun j v' t' e1 e2 => ?_⟩
            match j, e1, e2 with
            | 0, e1, e2 => simp at e1 e2; subst e1; subst e2; exact r3.ext hext
            | j + 1, e1, _ => simp at e1⟩
          refine ⟨.skip, undef, _, ρ, ?_, .inr ⟨rfl, rfl⟩, e1, e2, .dead _⟩
          have hrun : (Instr.mapUpdate t (.map (some (ρ.β k))) (.string s) (a.eval y)).run P w = .ok () (setBlock w (ρ.β k) (.map (es.push { key := .string s, val := a.eval y, born := cl }) (cl + 1))) := by
            simp [Instr.mapUpdate, run_underlying h1, MapKept.run_getObj_map g1, run_checkKey h2 hkey, run_findKey h2 q2, MapKept.run_setObj_map _ g1, Result.andThen, setBlock]
          rcases ho with ho | ho <;> simp [execOp, ho, r1.inv_mp.2, r2.inv_lit, hrun]
        · rw [q1] at hl; cases hl
      · cases h
    · cases h
  · cases h
/-- whichever -/
def orR (a b : Res) : Res := match a with
  | some x => some x
  | none => b
theorem orR_some {a b : Res} {x : Option Bool × AV × List (Nat × Box) × List Nat} (h : orR a b = some x) : a = some x ∨ b = some x := by
  unfold orR at h
  split at h
  · exact .inl h
  · exact .inr h
end Go.Cm
