/- The abstract machine, third state, part 5: unary operators, tuples, struct literals, len, min, max, fields, conversions; all operations in one table. No condition. -/
import Derived.Test.YtibcoiabdnbdjaaDoorCm4
namespace Go.Cm
open Go.RowKit
set_option linter.unusedSectionVars false
variable [Sig]

def unF (op : UnOp) (x : AV) : Res :=
  match op, x with
  | .not, .lit (.bool b) => some (none, .lit (.bool (!b)), [], [])
  | .neg, .lit (.int k n) => some (none, .lit (.int k (k.wrap (0 - n))), [], [])
  | _, _ => none
theorem un_sound {P : Program} {o : Oper} {ev : Operand → AV} {bx : Bxs} {c : Option Bool} {r : AV} {e : List (Nat × Box)} {rd : List Nat} {op : UnOp} {t : Nat} {x : Operand} (ho : o.op = .unOp op t x)
    (h : unF op (ev x) = some (c, r, e, rd)) : LocalOk P o ev bx r e rd := by
  unfold unF at h
  split at h
  · rename_i b hx
    simp only [Option.some.injEq, Prod.mk.injEq] at h
    obtain ⟨_, rfl, rfl, rfl⟩ := h
    refine LocalOk.pure fun w ρ bx' a hag hs hr => ?_
    have h1 := hr x (by rw [ho]; simp [Op.operands])
    rw [hx] at h1
    exact ⟨_, by simp [execOp, ho, h1.inv_lit, Op.unary], .lit _⟩
  · rename_i k n hx
    simp only [Option.some.injEq, Prod.mk.injEq] at h
    obtain ⟨_, rfl, rfl, rfl⟩ := h
    refine LocalOk.pure fun w ρ bx' a hag hs hr => ?_
    have h1 := hr x (by rw [ho]; simp [Op.operands])
    rw [hx] at h1
    exact ⟨.int k (k.wrap (0 - n)), by simp [execOp, ho, h1.inv_lit, Op.unary, Op.intArith], .lit _⟩
  · cases h

def extractF (x : AV) (i : Nat) : Res :=
  match x with
  | .tup cs => match cs[i]? with
    | some r => some (none, r, [], [])
    | none => none
  | _ => none
theorem extract_sound {P : Program} {o : Oper} {ev : Operand → AV} {bx : Bxs} {c : Option Bool} {r : AV} {e : List (Nat × Box)} {rd : List Nat} {i : Nat} {x : Operand} (ho : o.op = .extract x i)
    (h : extractF (ev x) i = some (c, r, e, rd)) : LocalOk P o ev bx r e rd := by
  unfold extractF at h
  split at h
  · rename_i cs hx
    split at h
    · rename_i r' hi
      simp only [Option.some.injEq, Prod.mk.injEq] at h
      obtain ⟨_, rfl, rfl, rfl⟩ := h
      refine LocalOk.pure fun w ρ bx' a hag hs hr => ?_
      have h1 := hr x (by rw [ho]; simp [Op.operands])
      rw [hx] at h1
      obtain ⟨vs, hv, hl, hrr⟩ := h1.inv_tup
      have hlt : i < vs.length := by rw [hl]; exact (List.getElem?_eq_some_iff.1 hi).1
      exact ⟨vs[i], by simp [execOp, ho, hv, Instr.extract, List.getElem?_eq_getElem hlt], hrr i _ _ (List.getElem?_eq_getElem hlt) hi⟩
    · cases h
  · cases h

/-! struct and array literals -/
def fillA (pl : Nat → Option (Nat × Nat)) (cs : List AV) : List (Nat × AV) → Option (List AV)
  | [] => some cs
  | (i, v) :: r => match pl i with
    | none => none
    | some (off, size) => if (cellsA v).length = size ∧ off + size ≤ cs.length ∧ v.fit = true then fillA pl (splice cs off (cellsA v)) r else none

theorem foldl_set (off : Nat) : ∀ (l : List Value) (k : Nat) (cells : Array Value), off + k + l.length ≤ cells.size →
    ((l.zipIdx k).foldl (fun cs (p : Value × Nat) => cs.setIfInBounds (off + p.2) p.1) cells).toList = cells.toList.take (off + k) ++ l ++ cells.toList.drop (off + k + l.length)
  | [], k, cells, _ => by simp
  | c :: l, k, cells, h => by
    simp only [List.length_cons] at h
    rw [List.zipIdx_cons, List.foldl_cons, foldl_set off l (k + 1) _ (by simp; omega)]
    have hlt : off + k < cells.toList.length := by simp; omega
    simp only [Array.toList_setIfInBounds, List.length_cons]
    rw [show off + (k + 1) = off + k + 1 by omega, show off + k + (l.length + 1) = off + k + 1 + l.length by omega,
      List.take_set, List.drop_set_of_lt (by omega), List.take_succ_eq_append_getElem hlt, List.set_append]
    simp only [List.length_take, Nat.min_eq_left (Nat.le_of_lt hlt)]
    simp

theorem fill_sound {w : World} {ρ : Env} {bx : Nat → Box} (pl : Nat → Option (Nat × Nat)) : ∀ (ps : List (Nat × Value)) (qs : List (Nat × AV)) (vs : List Value) (cs cs' : List AV),
    ps.length = qs.length → (∀ (j : Nat) (p : Nat × Value) (q : Nat × AV), ps[j]? = some p → qs[j]? = some q → p.1 = q.1 ∧ Rep w ρ bx p.2 q.2) → RepL w ρ bx vs cs → fillA pl cs qs = some cs' →
    ∃ vs', Instr.fill pl ⟨vs⟩ ps = some ⟨vs'⟩ ∧ RepL w ρ bx vs' cs'
  | [], [], vs, cs, cs', _, _, hr, h => by
    simp only [fillA, Option.some.injEq] at h
    subst h
    exact ⟨vs, rfl, hr⟩
  | [], _ :: _, _, _, _, hl, _, _, _ => by simp at hl
  | _ :: _, [], _, _, _, hl, _, _, _ => by simp at hl
  | p :: ps, q :: qs, vs, cs, cs', hl, hp, hr, h => by
    obtain ⟨i, u⟩ := p
    obtain ⟨i', v⟩ := q
    obtain ⟨rfl, hrep⟩ := hp 0 _ _ rfl rfl
    simp only [fillA] at h
    split at h
    · cases h
    · rename_i off size hpl
      split at h
      · rename_i hc
        obtain ⟨h1, h2, h3⟩ := hc
        obtain ⟨g1, _⟩ := hrep.cells h3
        simp only at g1 hpl
        have e1 : u.cells.toList.length = size := by rw [g1.1]; exact h1
        have e2 : off + u.cells.toList.length ≤ vs.length := by rw [e1, hr.1]; exact h2
        obtain ⟨vs', k1, k2⟩ := fill_sound pl ps qs _ _ cs' (by simpa using hl) (fun j p q a b => hp (j + 1) p q (by simpa using a) (by simpa using b)) (hr.splice g1 off e2) h
        refine ⟨vs', ?_, k2⟩
        rw [← k1]
        have e3 : u.cells.size = size := by rw [← e1]; simp
        have e4 : off + u.cells.size ≤ vs.length := by rw [e3, ← e1]; exact e2
        simp only [Instr.fill, hpl]
        rw [if_neg (by simp [e3] at e4 ⊢; omega)]
        congr 1
        apply Array.ext'
        have := foldl_set off u.cells.toList 0 ⟨vs⟩ (by simpa using e2)
        simp only [Nat.add_zero] at this
        rw [← this, ← Array.foldl_toList]
        simp
      · cases h

def placesT (P : Program) (t : TypeId) : Option (List (Nat × Nat)) :=
  match P.underlying t with
  | some (.struct fs) => fs.toList.mapM fun f => (P.info? f.type).map fun i => (f.offset, i.size)
  | some (.array n e) => (P.info? e).map fun i => (List.range n).map fun j => (j * i.size, i.size)
  | _ => none
def buildF (P : Program) (t : TypeId) (qs : List (Nat × AV)) : Res :=
  match zeroOf P t with
  | some (.agg zs) => match placesT P t with
    | some pl => match fillA (fun i => pl[i]?) (zs.toList.map ofV1) qs with
      | some cs => some (none, .agg cs, [], [])
      | none => none
    | none => none
  | _ => none

theorem run_places {P : Program} (w : World) : ∀ (fs : List Field) (pl : List (Nat × Nat)), (fs.mapM fun f => (P.info? f.type).map fun i => (f.offset, i.size)) = some pl →
    (fs.mapM (m := Sem) fun f => do pure (f.offset, ← sizeOf f.type)).run P w = .ok pl w
  | [], pl, h => by simp at h; subst h; simp
  | f :: fs, pl, h => by
    rw [List.mapM_cons] at h
    cases hi : P.info? f.type with
    | none => rw [hi] at h; simp at h
    | some i =>
      rw [hi] at h
      simp only [Option.map_some, Option.bind_eq_bind, Option.bind_some] at h
      cases hm : (fs.mapM fun f => (P.info? f.type).map fun i => (f.offset, i.size)) with
      | none => rw [hm] at h; simp at h
      | some pl' =>
        rw [hm] at h
        simp at h
        subst h
        have ih := run_places w fs pl' hm
        rw [List.mapM_cons]
        simp only [Sem.run_bind, sizeOf, typeInfo, run_program, Result.andThen_ok, hi, Sem.run_pure] at ih ⊢
        simp only [ih, Result.andThen_ok]

theorem fillA_mono {pl pl' : Nat → Option (Nat × Nat)} (h : ∀ i x, pl i = some x → pl' i = some x) : ∀ (qs : List (Nat × AV)) (cs cs' : List AV), fillA pl cs qs = some cs' → fillA pl' cs qs = some cs'
  | [], _, _, e => e
  | (i, v) :: qs, cs, cs', e => by
    simp only [fillA] at e ⊢
    split at e
    · cases e
    · rename_i off size hp
      rw [h i _ hp]
      simp only
      split at e
      · rename_i hc
        rw [if_pos hc]
        exact fillA_mono h qs _ _ e
      · cases e

theorem build_run {P : Program} {o : Oper} {ev : Operand → AV} {c : Option Bool} {r : AV} {e : List (Nat × Box)} {rd : List Nat} {t : Nat} {ps : Array (Nat × Operand)} (ho : o.op = .build t ps)
    (h : buildF P t (ps.toList.map fun p => (p.1, ev p.2)) = some (c, r, e, rd)) : e = [] ∧ rd = [] ∧ ∀ (w : World) (ρ : Env) (bx' : Nat → Box) (a : Act), (∀ x, x ∈ o.op.operands → Rep w ρ bx' (a.eval x) (ev x)) → ∃ v', (execOp a.eval o).run P w = .ok (.value v') w ∧ Rep w ρ bx' v' r := by
  unfold buildF at h
  split at h
  · rename_i zs hz
    split at h
    · rename_i pl hpl
      split at h
      · rename_i cs hcs
        simp only [Option.some.injEq, Prod.mk.injEq] at h
        obtain ⟨_, rfl, rfl, rfl⟩ := h
        refine ⟨rfl, rfl, fun w ρ bx' a hr => ?_⟩
        have hzr : RepL w ρ bx' zs.toList (zs.toList.map ofV1) := ⟨by simp, fun i v t h1 h2 => by
          rw [List.getElem?_map, h1] at h2
          simp at h2
          subst h2
          exact Rep_ofV1 v⟩
        have hzv : ∀ w, (zeroValue t).run P w = .ok (.agg zs) w := fun w => by
          unfold zeroOf at hz
          cases hi : P.info? t with
          | none => rw [hi] at hz; cases hz
          | some i =>
            rw [hi] at hz
            simp only [Option.bind_some] at hz
            simp [zeroValue, typeInfo, hi, hz]
        have hps : ∀ (j : Nat) (p : Nat × Value) (q : Nat × AV), ((ps.map fun (i, x) => (i, a.eval x)).toList)[j]? = some p → (ps.toList.map fun p => (p.1, ev p.2))[j]? = some q → p.1 = q.1 ∧ Rep w ρ bx' p.2 q.2 := by
          intro j p q h1 h2
          simp only [Array.toList_map, List.getElem?_map] at h1 h2
          cases hj : ps.toList[j]? with
          | none => rw [hj] at h1; cases h1
          | some x =>
            rw [hj] at h1 h2
            simp at h1 h2
            subst h1; subst h2
            refine ⟨rfl, hr x.2 ?_⟩
            rw [ho]
            simp only [Op.operands, List.mem_toArray, List.mem_map]
            exact ⟨x, List.mem_of_getElem? hj, rfl⟩
        have hlen : ((ps.map fun (i, x) => (i, a.eval x)).toList).length = (ps.toList.map fun p => (p.1, ev p.2)).length := by simp
        unfold placesT at hpl
        split at hpl
        · rename_i fs hfs
          obtain ⟨vs', k1, k2⟩ := fill_sound (fun i => pl[i]?) _ _ zs.toList _ cs hlen hps hzr hcs
          refine ⟨.agg ⟨vs'⟩, ?_, .agg vs' cs k2.1 k2.2⟩
          have hrun := run_places w fs.toList pl hpl
          have hm : (fs.mapM (m := Sem) fun f => do pure (f.offset, ← sizeOf f.type)).run P w = .ok pl.toArray w := by
            rw [Array.mapM_eq_mapM_toList, Sem.run_map, hrun]
            rfl
          have k1' : Instr.fill (fun i => pl.toArray[i]?) zs (ps.map fun (i, x) => (i, a.eval x)).toList = some ⟨vs'⟩ := by
            rw [← k1]; simp
          simp only [execOp, ho, Instr.build, Sem.run_bind, hzv, Result.andThen_ok, run_underlying hfs, hm, Value.cells, k1', Sem.run_pure]
        · rename_i n et hfs
          cases hi : P.info? et with
          | none => rw [hi] at hpl; cases hpl
          | some inf =>
            rw [hi] at hpl
            simp only [Option.map_some, Option.some.injEq] at hpl
            subst hpl
            obtain ⟨vs', k1, k2⟩ := fill_sound (fun i => some (i * inf.size, inf.size)) _ _ zs.toList _ cs hlen hps hzr (fillA_mono (fun i x hx => by
              rw [List.getElem?_map] at hx
              cases hi' : (List.range n)[i]? with
              | none => rw [hi'] at hx; cases hx
              | some j =>
                rw [hi'] at hx
                have : j = i := by
                  have := (List.getElem?_eq_some_iff.1 hi').2
                  simpa using this.symm
                subst this
                simpa using hx) _ _ _ hcs)
            refine ⟨.agg ⟨vs'⟩, ?_, .agg vs' cs k2.1 k2.2⟩
            simp only [execOp, ho, Instr.build, Sem.run_bind, hzv, Result.andThen_ok, run_underlying hfs, sizeOf, typeInfo, run_program, hi, Value.cells, Sem.run_pure]
            rw [show (⟨zs.toList⟩ : Array Value) = zs from rfl] at k1
            simp only [k1, Sem.run_pure, Result.andThen_ok]
        · cases hpl
      · cases h
    · cases h
  · cases h

theorem build_sound {P : Program} {o : Oper} {ev : Operand → AV} {bx : Bxs} {c : Option Bool} {r : AV} {e : List (Nat × Box)} {rd : List Nat} {t : Nat} {ps : Array (Nat × Operand)} (ho : o.op = .build t ps)
    (h : buildF P t (ps.toList.map fun p => (p.1, ev p.2)) = some (c, r, e, rd)) : LocalOk P o ev bx r e rd := by
  obtain ⟨rfl, rfl, k⟩ := build_run ho h
  exact LocalOk.pure fun w ρ bx' a _ _ hr => k w ρ bx' a hr

/-! len, min, max -/
def isSliceT (P : Program) (t : TypeId) : Bool := match P.underlying t with | some (.slice _) => true | _ => false
def isStringT (P : Program) (t : TypeId) : Bool := match P.underlying t with | some .string => true | _ => false
def lenF (P : Program) (t : TypeId) (x : AV) (bx : Bxs) : Res :=
  match x with
  | .sl q => if isSliceT P t = true then some (none, .lit (.int .i64 q.n), [], []) else none
  | .e0 => if isSliceT P t = true then some (none, .lit (.int .i64 0), [], []) else none
  | .row k => match rowOf (bget bx k) with
    | some q => if isSliceT P t = true then some (none, .lit (.int .i64 q.n), [], [k]) else none
    | none => none
  | .lit (.string s) => if isStringT P t = true then some (none, .lit (.int .i64 s.size), [], []) else none
  | _ => none

theorem exec_len {P : Program} {o : Oper} {t : Nat} {x : Operand} (ho : o.op = .call { callee := .builtin .len, args := #[x], argTypes := #[t] }) (ht : isSliceT P t = true) {a : Act} {w : World} {A : Option Addr} {n c : Nat} (hx : a.eval x = .slice A n c) :
    (execOp a.eval o).run P w = .ok (.value (.int .i64 n)) w := by
  have hu : ∃ e, P.underlying t = some (.slice e) := by unfold isSliceT at ht; split at ht <;> first | exact ⟨_, by assumption⟩ | cases ht
  obtain ⟨e, hu⟩ := hu
  simp [execOp, ho, hx, resolve, invoke, builtin, Builtin.len_, run_underlying hu, goInt]
theorem len_sound {P : Program} {o : Oper} {ev : Operand → AV} {bx : Bxs} {c : Option Bool} {r : AV} {e : List (Nat × Box)} {rd : List Nat} {t : Nat} {x : Operand} (ho : o.op = .call { callee := .builtin .len, args := #[x], argTypes := #[t] })
    (h : lenF P t (ev x) bx = some (c, r, e, rd)) : LocalOk P o ev bx r e rd := by
  unfold lenF at h
  split at h
  · rename_i q hx
    split at h
    · rename_i ht
      simp only [Option.some.injEq, Prod.mk.injEq] at h
      obtain ⟨_, rfl, rfl, rfl⟩ := h
      refine LocalOk.pure fun w ρ bx' a hag hs hr => ?_
      have h1 := hr x (by rw [ho]; simp [Op.operands, Call.operands])
      rw [hx] at h1
      have h2 := h1.inv_sl
      generalize hv : a.eval x = v at h2
      cases h2 with
      | sl A len cap _ f hlen hcap hmax hone hcc hrr =>
        subst hlen
        exact ⟨_, exec_len ho ht hv, .lit _⟩
    · cases h
  · rename_i hx
    split at h
    · rename_i ht
      simp only [Option.some.injEq, Prod.mk.injEq] at h
      obtain ⟨_, rfl, rfl, rfl⟩ := h
      refine LocalOk.pure fun w ρ bx' a hag hs hr => ?_
      have h1 := hr x (by rw [ho]; simp [Op.operands, Call.operands])
      rw [hx] at h1
      obtain ⟨A, hv⟩ := h1.inv_e0
      exact ⟨_, exec_len ho ht hv, .lit _⟩
    · cases h
  · rename_i k hx
    split at h
    · rename_i q hk
      split at h
      · rename_i ht
        simp only [Option.some.injEq, Prod.mk.injEq] at h
        obtain ⟨_, rfl, rfl, rfl⟩ := h
        refine LocalOk.pure fun w ρ bx' a hag hs hr => ?_
        have h1 := hr x (by rw [ho]; simp [Op.operands, Call.operands])
        rw [hx] at h1
        obtain ⟨_, hv⟩ := h1.inv_row
        have hb := hs.box k
        rw [hag k (by simp)] at hb
        obtain ⟨et, xs, hown, _⟩ := hb.rowOf hk
        have hv' : ∃ A c, ρ.hd k = .slice A q.n c := by
          rcases hown.2 with ⟨a, e1, e2⟩ | ⟨g, cap, cur, e1, _⟩
          · exact ⟨a, 0, by rw [e1, e2]⟩
          · exact ⟨_, cap + 1, e1⟩
        obtain ⟨A, cc, hv'⟩ := hv'
        exact ⟨_, exec_len ho ht (hv.trans hv'), .lit _⟩
      · cases h
    · cases h
  · rename_i s hx
    split at h
    · rename_i ht
      simp only [Option.some.injEq, Prod.mk.injEq] at h
      obtain ⟨_, rfl, rfl, rfl⟩ := h
      refine LocalOk.pure fun w ρ bx' a hag hs hr => ?_
      have h1 := hr x (by rw [ho]; simp [Op.operands, Call.operands])
      rw [hx] at h1
      have hu : P.underlying t = some .string := by unfold isStringT at ht; split at ht <;> first | assumption | cases ht
      exact ⟨_, by simp [execOp, ho, h1.inv_lit, resolve, invoke, builtin, Builtin.len_, run_underlying hu, goInt], .lit _⟩
    · cases h
  · cases h

def mmF (mx : Bool) (x y : AV) : Res :=
  match x, y with
  | .lit (.int k a), .lit (.int k' b) => if k = k' then some (none, .lit (.int k (match mx with | true => max a b | false => min a b)), [], []) else none
  | _, _ => none
theorem max_sound {P : Program} {o : Oper} {ev : Operand → AV} {bx : Bxs} {c : Option Bool} {r : AV} {e : List (Nat × Box)} {rd : List Nat} {ts : Array TypeId} {x y : Operand} (ho : o.op = .call { callee := .builtin .max, args := #[x, y], argTypes := ts })
    (h : mmF true (ev x) (ev y) = some (c, r, e, rd)) : LocalOk P o ev bx r e rd := by
  unfold mmF at h
  split at h
  · rename_i k a k' b hx hy
    split at h
    · rename_i hk
      subst hk
      simp only [Option.some.injEq, Prod.mk.injEq] at h
      obtain ⟨_, rfl, rfl, rfl⟩ := h
      refine LocalOk.pure fun w ρ bx' a' hag hs hr => ?_
      have h1 := hr x (by rw [ho]; simp [Op.operands, Call.operands])
      have h2 := hr y (by rw [ho]; simp [Op.operands, Call.operands])
      rw [hx] at h1
      rw [hy] at h2
      refine ⟨.int k (max a b), ?_, .lit _⟩
      have : (if b > a then b else a) = max a b := by omega
      simp [execOp, ho, h1.inv_lit, h2.inv_lit, resolve, invoke, builtin, Builtin.max_, Builtin.max2, this]
    · cases h
  · cases h
theorem min_sound {P : Program} {o : Oper} {ev : Operand → AV} {bx : Bxs} {c : Option Bool} {r : AV} {e : List (Nat × Box)} {rd : List Nat} {ts : Array TypeId} {x y : Operand} (ho : o.op = .call { callee := .builtin .min, args := #[x, y], argTypes := ts })
    (h : mmF false (ev x) (ev y) = some (c, r, e, rd)) : LocalOk P o ev bx r e rd := by
  unfold mmF at h
  split at h
  · rename_i k a k' b hx hy
    split at h
    · rename_i hk
      subst hk
      simp only [Option.some.injEq, Prod.mk.injEq] at h
      obtain ⟨_, rfl, rfl, rfl⟩ := h
      refine LocalOk.pure fun w ρ bx' a' hag hs hr => ?_
      have h1 := hr x (by rw [ho]; simp [Op.operands, Call.operands])
      have h2 := hr y (by rw [ho]; simp [Op.operands, Call.operands])
      rw [hx] at h1
      rw [hy] at h2
      refine ⟨.int k (min a b), ?_, .lit _⟩
      have : (if b < a then b else a) = min a b := by omega
      simp [execOp, ho, h1.inv_lit, h2.inv_lit, resolve, invoke, builtin, Builtin.min_, Builtin.min2, this]
    · cases h
  · cases h

def convF (P : Program) (src dst : TypeId) (x : AV) : Res :=
  match x with
  | .lit (.int _ n) => match P.underlying src, P.underlying dst with
    | some _, some (.int k) => some (none, .lit (.int k (k.wrap n)), [], [])
    | _, _ => none
  | .lit (.string s) => match P.underlying src, P.underlying dst with
    | some .string, some .string => some (none, .lit (.string s), [], [])
    | _, _ => none
  | _ => none
theorem conv_sound {P : Program} {o : Oper} {ev : Operand → AV} {bx : Bxs} {c : Option Bool} {r : AV} {e : List (Nat × Box)} {rd : List Nat} {src dst : Nat} {x : Operand} (ho : o.op = .convert src dst x)
    (h : convF P src dst (ev x) = some (c, r, e, rd)) : LocalOk P o ev bx r e rd := by
  unfold convF at h
  split at h
  · rename_i k n hx
    split at h
    · rename_i d k' hs hd
      simp only [Option.some.injEq, Prod.mk.injEq] at h
      obtain ⟨_, rfl, rfl, rfl⟩ := h
      refine LocalOk.pure fun w ρ bx' a hag hs' hr => ?_
      have h1 := hr x (by rw [ho]; simp [Op.operands])
      rw [hx] at h1
      exact ⟨.int k' (k'.wrap n), by simp [execOp, ho, h1.inv_lit, convert, run_underlying hs, run_underlying hd, Conv.intToInt], .lit _⟩
    · cases h
  · rename_i s hx
    split at h
    · rename_i hs hd
      simp only [Option.some.injEq, Prod.mk.injEq] at h
      obtain ⟨_, rfl, rfl, rfl⟩ := h
      refine LocalOk.pure fun w ρ bx' a hag hs' hr => ?_
      have h1 := hr x (by rw [ho]; simp [Op.operands])
      rw [hx] at h1
      exact ⟨.string s, by simp [execOp, ho, h1.inv_lit, convert, run_underlying hs, run_underlying hd], .lit _⟩
    · cases h
  · cases h
end Go.Cm
