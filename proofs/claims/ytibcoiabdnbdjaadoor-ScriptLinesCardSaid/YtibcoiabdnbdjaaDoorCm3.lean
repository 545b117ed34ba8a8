/- The abstract machine, third state, part 3: single operations (copies, boxes, loads, stores, addresses, arithmetic, comparisons). No condition. -/
import Derived.Test.YtibcoiabdnbdjaaDoorCm2
import Derived.Laws.StructEq
namespace Go.Cm
open Go.RowKit
set_option linter.unusedSectionVars false
variable [Sig]

abbrev Res := Option (Option Bool × AV × List (Nat × Box) × List Nat)
/-- the condition of an operation, if it has one -/
def CondP : Option Bool → Prop
  | none => True
  | some b => b = true

def tyI (P : Program) (t : TypeId) : Option (Nat × Bool) :=
  match P.info? t, P.underlying t with
  | some i, some d => some (i.size, match d with | .struct _ | .array _ _ => true | _ => false)
  | _, _ => none

theorem tyI_spec {P : Program} {t : TypeId} {n : Nat} {ag : Bool} (h : tyI P t = some (n, ag)) :
    ∃ i d, P.info? t = some i ∧ P.underlying t = some d ∧ i.size = n ∧ (match d with | .struct _ | .array _ _ => true | _ => false) = ag := by
  unfold tyI at h
  split at h
  · rename_i i d h1 h2
    simp only [Option.some.injEq, Prod.mk.injEq] at h
    exact ⟨i, d, h1, h2, h.1, h.2⟩
  · cases h

theorem run_isAgg_of {P : Program} {t : TypeId} {n : Nat} {ag : Bool} (h : tyI P t = some (n, ag)) (w : World) : (isAgg t).run P w = .ok ag w := by
  obtain ⟨i, d, h1, h2, h3, h4⟩ := tyI_spec h
  unfold isAgg
  rw [Sem.run_bind, run_underlying h2 w]
  subst h4
  cases d <;> rfl
theorem run_sizeOf_of {P : Program} {t : TypeId} {n : Nat} {ag : Bool} (h : tyI P t = some (n, ag)) (w : World) : (sizeOf t).run P w = .ok n w := by
  obtain ⟨i, d, h1, h2, h3, h4⟩ := tyI_spec h
  simp [sizeOf, typeInfo, h1, h3]

theorem add_none (b o n : Nat) : (⟨b, o, none⟩ : Addr).add n = ⟨b, o + n, none⟩ := by
  unfold Addr.add; split <;> simp_all

theorem run_loadVar_at {P : Program} {t : TypeId} {n : Nat} {ag : Bool} (h : tyI P t = some (n, ag)) {w : World} {b o : Nat} (vs : List Value)
    (hc : ∀ (j : Nat) (v : Value), vs[j]? = some v → w.cell? ⟨b, o + j, none⟩ = some v) :
    (ag = true → vs.length = n → (loadVar t ⟨b, o, none⟩).run P w = .ok (.agg ⟨vs⟩) w) ∧
    (ag = false → ∀ v, vs[0]? = some v → (loadVar t ⟨b, o, none⟩).run P w = .ok v w) := by
  constructor
  · intro ha hl
    subst ha; subst hl
    have hl := run_loadCells_list (P := P) w ⟨b, o, none⟩ vs (fun j v hv => by rw [add_none]; exact hc j v hv)
    simp [loadVar, Sem.run_bind, run_isAgg_of h, run_sizeOf_of h, hl]
  · intro ha v hv
    subst ha
    have := hc 0 v hv
    simp only [Nat.add_zero] at this
    simp [loadVar, Sem.run_bind, run_isAgg_of h, this]

def getA (cs : List AV) (off n : Nat) (ag : Bool) : Option AV :=
  match ag with
  | true => if off + n ≤ cs.length then some (.agg ((cs.drop off).take n)) else none
  | false => cs[off]?

theorem getA_sound {P : Program} {t : TypeId} {n : Nat} {ag : Bool} (h : tyI P t = some (n, ag)) {w : World} {ρ : Env} {bx : Nat → Box} {b o off : Nat} {vs : List Value} {cs : List AV} {r : AV}
    (hg : getA cs off n ag = some r) (hr : RepL w ρ bx vs cs) (hc : ∀ (j : Nat) (v : Value), vs[j]? = some v → w.cell? ⟨b, o + j, none⟩ = some v) :
    ∃ v, (loadVar t ⟨b, o + off, none⟩).run P w = .ok v w ∧ Rep w ρ bx v r := by
  cases ag with
  | true =>
    simp only [getA] at hg
    split at hg
    · rename_i hle
      injection hg with hg
      subst hg
      have hl : ((vs.drop off).take n).length = n := by have := hr.1; simp; omega
      refine ⟨.agg ⟨(vs.drop off).take n⟩, (run_loadVar_at h (b := b) (o := o + off) ((vs.drop off).take n) (fun j v hv => ?_)).1 rfl hl, .agg _ _ ?_ ?_⟩
      · have hj : j < n := by rw [← hl]; exact (List.getElem?_eq_some_iff.1 hv).1
        rw [List.getElem?_take, if_pos hj, List.getElem?_drop] at hv
        rw [Nat.add_assoc]; exact hc _ v hv
      · have := hr.1; simp; omega
      · intro i v t h1 h2
        have hj : i < n := by rw [← hl]; exact (List.getElem?_eq_some_iff.1 h1).1
        rw [List.getElem?_take, if_pos hj, List.getElem?_drop] at h1 h2
        exact hr.2 _ v t h1 h2
    · cases hg
  | false =>
    simp only [getA] at hg
    have hlt : off < vs.length := by rw [hr.1]; exact (List.getElem?_eq_some_iff.1 hg).1
    refine ⟨vs[off], (run_loadVar_at h (b := b) (o := o + off) [vs[off]] (fun j v hv => ?_)).2 rfl _ rfl, hr.2 off _ _ (List.getElem?_eq_getElem hlt) hg⟩
    match j, hv with
    | 0, hv => simp at hv; subst hv; exact hc off _ (List.getElem?_eq_getElem hlt)
    | j + 1, hv => simp at hv

/-- a row that can be read -/
def rowOf : Box → Option Row
  | .row _ _ q => some q
  | .frz _ q => some q
  | _ => none
theorem SimBox.rowOf {w : World} {ρ : Env} {bx : Nat → Box} {k : Nat} {b : Box} (h : SimBox w ρ bx k b) {q : Row} (hb : Cm.rowOf b = some q) :
    ∃ e xs, ownsR w ρ.A e q.sz (ρ.hd k) q.n xs ∧ RowRep w (okS ρ bx) xs q ∧ (∀ c, ownB (ρ.hd k) = some c → ρ.β k = c) := by
  cases b with
  | row full e q' =>
    simp only [Cm.rowOf, Option.some.injEq] at hb
    subst hb
    obtain ⟨xs, h1, h2, h3, _⟩ := h
    exact ⟨e, xs, h1, h2, h3⟩
  | frz e q' =>
    simp only [Cm.rowOf, Option.some.injEq] at hb
    subst hb
    obtain ⟨xs, h1, h2, h3⟩ := h
    exact ⟨e, xs, h1, h2, fun c hc => (h3 c hc).1⟩
  | _ => cases hb
theorem ownsR.block {w : World} {F : Nat → Prop} {e sz n : Nat} {v : Value} {xs : List Value} (h : ownsR w F e sz v n xs) (hn : 0 < n) :
    ∃ g cap cur, v = .slice (some ⟨g, 0, none⟩) n (cap + 1) ∧ ownB v = some g ∧ F g ∧ w.heap[g]? = some (.cells cur e (0, 0)) ∧ n ≤ cap + 1 ∧ cap + 1 ≤ maxLen ∧ cur.size = (cap + 1) * sz ∧ cur.toList.take (n * sz) = xs := by
  rcases h.2 with ⟨_, _, h⟩ | ⟨g, cap, cur, hv, h1, h2, h3, h4, h5, h6⟩
  · omega
  · exact ⟨g, cap, cur, hv, by rw [hv]; rfl, h1, h2, h3, h4, h5, h6⟩
theorem ownsR.bound {w : World} {F : Nat → Prop} {e sz n i : Nat} {v : Value} {xs : List Value} (h : ownsR w F e sz v n xs) (hb : ∃ a m c, v = .slice a m c ∧ i < m) : i < n := by
  obtain ⟨a, m, c, hv, hi⟩ := hb
  rcases h.2 with ⟨a', e1, e2⟩ | ⟨g, cap, cur, e1, _⟩
  · rw [e1] at hv; injection hv with _ h2; omega
  · rw [e1] at hv; injection hv with _ h2; omega
theorem cells_take {w : World} {g e : Nat} {cur : Array Value} {xs : List Value} {m : Nat} (hh : w.heap[g]? = some (.cells cur e (0, 0))) (ht : cur.toList.take m = xs) {i : Nat} {v : Value} (hv : xs[i]? = some v) : w.cell? ⟨g, i, none⟩ = some v := by
  rw [cell_of_row w _ i _ _ _ hh]
  subst ht
  rw [List.getElem?_take] at hv
  split at hv
  · simpa using hv
  · cases hv
/-- the cells of one element -/
theorem RowRep.elem {w : World} {ok : Nat → Prop} {xs : List Value} {q : Row} (h : RowRep w ok xs q) (hl : xs.length = q.n * q.sz) {i : Nat} (hi : i < q.n) : RepTL w ok ((xs.drop (i * q.sz)).take q.sz) (q.g i) := by
  have h1 : (i + 1) * q.sz ≤ q.n * q.sz := Nat.mul_le_mul_right _ hi
  have h2 : (i + 1) * q.sz = i * q.sz + q.sz := by rw [Nat.add_mul]; omega
  have hlen := q.g_len i
  refine ⟨by simp; omega, fun j v t e1 e2 => ?_⟩
  have hj : j < q.sz := by rw [← hlen]; exact (List.getElem?_eq_some_iff.1 e2).1
  rw [List.getElem?_take, if_pos hj, List.getElem?_drop] at e1
  exact h.rep i j t v hi e2 e1

def loadF (P : Program) (t : TypeId) (p : AV) (bx : Bxs) : Res :=
  match tyI P t with
  | none => none
  | some (n, ag) =>
    match p with
    | .ptr k off => match bget bx k with
      | .var _ cs => match getA cs off n ag with
        | some r => some (none, r, [], [k])
        | none => none
      | _ => none
    | .rp k sz i j => match rowOf (bget bx k) with
      | some q => if sz = q.sz then (match getA ((q.g i).map ofTree) j n ag with
          | some r => some (none, r, [], [k])
          | none => none) else none
      | none => none
    | .ep cs j => match getA (cs.map ofTree) j n ag with
      | some r => some (none, r, [], [])
      | none => none
    | _ => none

theorem exec_load {P : Program} {o : Oper} {t : TypeId} {x : Operand} (ho : o.op = .load t x) {a : Act} {w : World} {ad : Addr} {v : Value} (hx : a.eval x = .pointer (some ad)) (h : (loadVar t ad).run P w = .ok v w) :
    (execOp a.eval o).run P w = .ok (.value v) w := by
  unfold execOp
  simp [ho, hx, Instr.loadAt, Instr.sureAddr, h]

theorem RepTL.map_ofTree {w : World} {ρ : Env} {bx : Nat → Box} {vs : List Value} {ts : List Tree} (h : RepTL w (okS ρ bx) vs ts) : RepL w ρ bx vs (ts.map ofTree) :=
  ⟨by rw [h.1]; simp, fun i v t h1 h2 => by
    rw [List.getElem?_map] at h2
    cases h3 : ts[i]? with
    | none => rw [h3] at h2; cases h2
    | some t' =>
      rw [h3] at h2
      simp at h2
      subst h2
      exact Rep_ofTree (h.2 i v t' h1 h3)⟩

theorem loadF_run {P : Program} {bx : Bxs} {c : Option Bool} {p r : AV} {e : List (Nat × Box)} {rd : List Nat} {t : TypeId}
    (h : loadF P t p bx = some (c, r, e, rd)) (hcd : CondP c) : e = [] ∧ ∀ (w : World) (ρ : Env) (bx' : Nat → Box) (v : Value), (∀ k, k ∈ rd → bx' k = bget bx k) → SimB w ρ bx' → Rep w ρ bx' v p →
      ∃ ad v', v = .pointer (some ad) ∧ (loadVar t ad).run P w = .ok v' w ∧ Rep w ρ bx' v' r := by
  unfold loadF at h
  split at h
  · cases h
  · rename_i n ag hty
    split at h
    · rename_i k off
      split at h
      · rename_i ty cs hk
        split at h
        · rename_i r' hg
          simp only [Option.some.injEq, Prod.mk.injEq] at h
          obtain ⟨_, rfl, rfl, rfl⟩ := h
          refine ⟨rfl, fun w ρ bx' v hag hs hxr => ?_⟩
          obtain ⟨_, hv⟩ := hxr.inv_ptr
          have hb := hs.box k
          rw [hag k (by simp), hk] at hb
          obtain ⟨vs, hh, hvs⟩ := hb
          obtain ⟨v', h1, h2⟩ := getA_sound hty (b := ρ.β k) (o := 0) hg hvs (fun j v hv => by rw [Nat.zero_add, cell_of_row w _ j _ _ _ hh]; simpa using hv)
          exact ⟨_, v', hv, (by rw [Nat.zero_add] at h1; exact h1), h2⟩
        · cases h
      · cases h
    · rename_i k sz i j
      split at h
      · rename_i q hk
        split at h
        · rename_i hsz
          subst hsz
          split at h
          · rename_i r' hg
            simp only [Option.some.injEq, Prod.mk.injEq] at h
            obtain ⟨rfl, rfl, rfl, rfl⟩ := h
            refine ⟨rfl, fun w ρ bx' v hag hs hxr => ?_⟩
            obtain ⟨_, hv⟩ := hxr.inv_rp
            have hb := hs.box k
            rw [hag k (by simp)] at hb
            obtain ⟨e, xs, hown, hrep, hβ⟩ := hb.rowOf hk
            have hlt : i < q.n := hown.bound hxr.inv_rpn
            obtain ⟨g, cap, cur, hv', hob, hB, hh, hcap, hm1, hcs, htk⟩ := hown.block (by omega)
            have hg' := hβ g hob
            obtain ⟨v', h1, h2⟩ := getA_sound hty (b := ρ.β k) (o := i * q.sz) hg (hrep.elem hown.1 hlt).map_ofTree (fun j v hv => by
              have hj : j < q.sz := by
                have := (List.getElem?_eq_some_iff.1 hv).1
                simp at this; omega
              rw [List.getElem?_take, if_pos hj, List.getElem?_drop] at hv
              rw [hg']; exact cells_take hh htk hv)
            exact ⟨_, v', hv, h1, h2⟩
          · cases h
        · cases h
      · cases h
    · rename_i cs j
      split at h
      · rename_i r' hg
        simp only [Option.some.injEq, Prod.mk.injEq] at h
        obtain ⟨_, rfl, rfl, rfl⟩ := h
        refine ⟨rfl, fun w ρ bx' v hag hs hxr => ?_⟩
        obtain ⟨b, o', f, hv, hc, hrr⟩ := hxr.inv_ep
        have hrl : RepTL w (okS ρ bx') ((List.range cs.length).map f) cs := ⟨by simp, fun i v t h1 h2 => by
          have hi : i < cs.length := (List.getElem?_eq_some_iff.1 h2).1
          rw [List.getElem?_map, List.getElem?_range hi] at h1
          simp at h1; subst h1
          exact hrr i t h2⟩
        obtain ⟨v', h1, h2⟩ := getA_sound hty (b := b) (o := o') hg hrl.map_ofTree (fun i v hv => by
          have hi : i < cs.length := by have := (List.getElem?_eq_some_iff.1 hv).1; simpa using this
          rw [List.getElem?_map, List.getElem?_range hi] at hv
          simp at hv; subst hv
          exact (hc i _ (List.getElem?_eq_getElem hi)).2)
        exact ⟨_, v', hv, h1, h2⟩
      · cases h
    · cases h

theorem load_sound {P : Program} {o : Oper} {ev : Operand → AV} {bx : Bxs} {c : Option Bool} {r : AV} {e : List (Nat × Box)} {rd : List Nat} {t : TypeId} {x : Operand} (ho : o.op = .load t x)
    (h : loadF P t (ev x) bx = some (c, r, e, rd)) (hcd : CondP c) : LocalOk P o ev bx r e rd := by
  obtain ⟨he, hl⟩ := loadF_run h hcd
  subst he
  refine LocalOk.pure fun w ρ bx' a hag hs hr => ?_
  obtain ⟨ad, v', h1, h2, h3⟩ := hl w ρ bx' _ hag hs (hr x (by rw [ho]; simp [Op.operands]))
  exact ⟨v', exec_load ho h1 h2, h3⟩

/-! copies -/
theorem move_sound {P : Program} {o : Oper} {ev : Operand → AV} {bx : Bxs} {x : Operand} (ho : o.op = .move x ∨ o.op = .assign x) : LocalOk P o ev bx (ev x) [] [] :=
  LocalOk.pure fun w ρ bx' a _ _ hr => ⟨a.eval x, by rcases ho with ho | ho <;> simp [execOp, ho], hr x (by rcases ho with ho | ho <;> rw [ho] <;> simp [Op.operands])⟩

def pickF (c a b : AV) : Res :=
  match c with
  | .lit (.bool t) => some (none, (match t with | true => a | false => b), [], [])
  | _ => none
theorem pick_sound {P : Program} {o : Oper} {ev : Operand → AV} {bx : Bxs} {c : Option Bool} {r : AV} {e : List (Nat × Box)} {rd : List Nat} {x y z : Operand} (ho : o.op = .pick x y z)
    (h : pickF (ev x) (ev y) (ev z) = some (c, r, e, rd)) : LocalOk P o ev bx r e rd := by
  unfold pickF at h
  split at h
  · rename_i t hx
    simp only [Option.some.injEq, Prod.mk.injEq] at h
    obtain ⟨_, rfl, rfl, rfl⟩ := h
    refine LocalOk.pure fun w ρ bx' a hag hs hr => ?_
    have h1 := hr x (by rw [ho]; simp [Op.operands])
    have h2 := hr y (by rw [ho]; simp [Op.operands])
    have h3 := hr z (by rw [ho]; simp [Op.operands])
    rw [hx] at h1
    have hv := h1.inv_lit
    cases t
    · exact ⟨a.eval z, by simp [execOp, ho, hv, asBool], h3⟩
    · exact ⟨a.eval y, by simp [execOp, ho, hv, asBool], h2⟩
  · cases h

/-! new boxes -/
def boxF (t : TypeId) (x : AV) (n : Nat) : Res :=
  if x.fit = true then some (none, .ptr n 0, [(n, .var t (cellsA x))], []) else none
theorem box_sound {P : Program} {o : Oper} {ev : Operand → AV} {bx : Bxs} {c : Option Bool} {r : AV} {e : List (Nat × Box)} {rd : List Nat} {t n : Nat} {x : Operand} (ho : o.op = .box t x)
    (h : boxF t (ev x) n = some (c, r, e, rd)) : LocalOk P o ev bx r e rd := by
  unfold boxF at h
  split at h
  · rename_i hf
    simp only [Option.some.injEq, Prod.mk.injEq] at h
    obtain ⟨_, rfl, rfl, rfl⟩ := h
    refine LocalOk.run fun w ρ bx' a hag hnew hs hr => ?_
    have hx := hr x (by rw [ho]; simp [Op.operands])
    obtain ⟨h1, _⟩ := hx.cells hf
    have hk : bx' n = .nil := (hnew n (.var t (cellsA (ev x))) (by simp)).resolve_left (by simp)
    obtain ⟨ρ', hβ, he, hs'⟩ := hs.push hk t h1
    exact ⟨_, .pointer (some ⟨w.heap.size, 0, none⟩), _, ρ', by simp [execOp, ho, Instr.box, newVar, newRow], .inl rfl, he, hs', .ptr n 0 _ (by show (setBox _ _ _ _).made; rw [bget_setBox, if_pos rfl]; trivial) (by rw [hβ])⟩
  · cases h

def zeroOf (P : Program) (t : TypeId) : Option Value := (P.info? t).bind (·.zero)
def allocF (P : Program) (t : TypeId) (n : Nat) : Res :=
  match zeroOf P t with
  | some z => boxF t (ofV z) n
  | none => none
theorem alloc_sound {P : Program} {o : Oper} {ev : Operand → AV} {bx : Bxs} {c : Option Bool} {r : AV} {e : List (Nat × Box)} {rd : List Nat} {t n : Nat} (ho : o.op = .alloc t)
    (h : allocF P t n = some (c, r, e, rd)) : LocalOk P o ev bx r e rd := by
  unfold allocF at h
  split at h
  · rename_i z hz
    unfold boxF at h
    split at h
    · rename_i hf
      simp only [Option.some.injEq, Prod.mk.injEq] at h
      obtain ⟨_, rfl, rfl, rfl⟩ := h
      refine LocalOk.run fun w ρ bx' a hag hnew hs hr => ?_
      obtain ⟨h1, _⟩ := (Rep_ofV (w := w) (ρ := ρ) (bx := bx') z).cells hf
      have hk : bx' n = .nil := (hnew n (.var t (cellsA (ofV z))) (by simp)).resolve_left (by simp)
      obtain ⟨ρ', hβ, he, hs'⟩ := hs.push hk t h1
      refine ⟨_, .pointer (some ⟨w.heap.size, 0, none⟩), _, ρ', ?_, .inl rfl, he, hs', .ptr n 0 _ (by show (setBox _ _ _ _).made; rw [bget_setBox, if_pos rfl]; trivial) (by rw [hβ])⟩
      unfold zeroOf at hz
      cases hi : P.info? t with
      | none => rw [hi] at hz; cases hz
      | some i =>
        rw [hi] at hz
        simp only [Option.bind_some] at hz
        simp [execOp, ho, Instr.alloc, zeroValue, typeInfo, hi, hz, newVar, newRow]
    · cases h
  · cases h

/-! stores -/
def splice (cs : List AV) (off : Nat) (new : List AV) : List AV := cs.take off ++ new ++ cs.drop (off + new.length)
def storeF (P : Program) (t : TypeId) (p x : AV) (bx : Bxs) : Res :=
  match tyI P t with
  | none => none
  | some (n, _) =>
    match p with
    | .ptr k off => match bget bx k with
      | .var ty cs => if (cellsA x).length = n ∧ off + n ≤ cs.length ∧ x.fit = true then some (none, .lit undef, [(k, .var ty (splice cs off (cellsA x)))], [k]) else none
      | _ => none
    | _ => none

theorem RepL.splice {w : World} {ρ : Env} {bx : Nat → Box} {vs us : List Value} {cs ds : List AV} (h : RepL w ρ bx vs cs) (h' : RepL w ρ bx us ds) (off : Nat) (hl : off + us.length ≤ vs.length) :
    RepL w ρ bx (vs.take off ++ us ++ vs.drop (off + us.length)) (Cm.splice cs off ds) := by
  have e1 := h.1
  have e2 := h'.1
  refine ⟨by simp [Cm.splice]; omega, fun i v t h1 h2 => ?_⟩
  unfold Cm.splice at h2
  rw [List.append_assoc, List.getElem?_append] at h1 h2
  have a1 : (vs.take off).length = off := by simp; omega
  have a2 : (cs.take off).length = off := by simp; omega
  rw [a1] at h1
  rw [a2] at h2
  by_cases hi : i < off
  · rw [if_pos hi, List.getElem?_take, if_pos hi] at h1 h2
    exact h.2 i v t h1 h2
  · rw [if_neg hi, List.getElem?_append] at h1 h2
    rw [← e2] at h2
    by_cases hj : i - off < us.length
    · rw [if_pos hj] at h1 h2
      exact h'.2 _ v t h1 h2
    · rw [if_neg hj, List.getElem?_drop] at h1 h2
      exact h.2 _ v t h1 h2

theorem store_sound {P : Program} {o : Oper} {ev : Operand → AV} {bx : Bxs} {c : Option Bool} {r : AV} {e : List (Nat × Box)} {rd : List Nat} {t : Nat} {x y : Operand} (ho : o.op = .store t x y)
    (h : storeF P t (ev x) (ev y) bx = some (c, r, e, rd)) : LocalOk P o ev bx r e rd := by
  unfold storeF at h
  split at h
  · cases h
  · rename_i n ag hty
    split at h
    · rename_i k off hx
      split at h
      · rename_i ty cs hk
        split at h
        · rename_i hcond
          obtain ⟨hlen, hle, hfit⟩ := hcond
          simp only [Option.some.injEq, Prod.mk.injEq] at h
          obtain ⟨_, rfl, rfl, rfl⟩ := h
          refine LocalOk.run fun w ρ bx' a hag hnew hs hr => ?_
          have hxr := hr x (by rw [ho]; simp [Op.operands])
          have hyr := hr y (by rw [ho]; simp [Op.operands])
          rw [hx] at hxr
          obtain ⟨_, hv⟩ := hxr.inv_ptr
          have hk' : bx' k = .var ty cs := by rw [hag k (by simp), hk]
          have hb := hs.box k
          rw [hk'] at hb
          obtain ⟨vs, hh, hvs⟩ := hb
          obtain ⟨hc1, hc2⟩ := hyr.cells hfit
          have hl1 : (a.eval y).cells.toList.length = n := by rw [hc1.1]; exact hlen
          have hl2 : off + (a.eval y).cells.toList.length ≤ vs.length := by rw [hl1, hvs.1]; exact hle
          obtain ⟨he, hs'⟩ := hs.write hk' (hvs.splice hc1 off hl2)
          have hst := run_storeCells_at (P := P) (ρ.β k) off ty (a.eval y).cells.toList 0 ⟨vs⟩ w hh (by simpa using hl2) hc2
          simp only [Nat.add_zero] at hst
          refine ⟨.skip, undef, _, ρ, ?_, .inr ⟨rfl, rfl⟩, he, hs', .lit _⟩
          have hsz : (a.eval y).cells.size = n := by rw [← hl1]; simp
          simp [execOp, ho, hv, Instr.storeAt, Instr.sureAddr, storeVar, run_sizeOf_of hty, hsz, hst]
        · cases h
      · cases h
    · cases h

/-! addresses -/
def fo (P : Program) (t : TypeId) (i : Nat) : Option Nat :=
  match P.underlying t with
  | some (.struct fs) => match fs[i]? with
    | some f => match P.info? f.type with
      | some inf => if inf.size = 0 then none else some f.offset
      | none => none
    | none => none
  | _ => none
def addO (p : AV) (n : Nat) : Option AV :=
  match p with
  | .ptr k off => some (.ptr k (off + n))
  | .rp k sz i j => some (.rp k sz i (j + n))
  | .ep cs j => some (.ep cs (j + n))
  | _ => none
theorem addO_sound {p r : AV} {n : Nat} (h : addO p n = some r) {w : World} {ρ : Env} {bx : Nat → Box} {v : Value} (hr : Rep w ρ bx v p) :
    ∃ b o, v = .pointer (some ⟨b, o, none⟩) ∧ Rep w ρ bx (.pointer (some ⟨b, o + n, none⟩)) r := by
  unfold addO at h
  split at h
  · injection h with h; subst h
    cases hr with
    | ptr k off v hm hv => exact ⟨_, _, hv, .ptr _ _ _ hm rfl⟩
  · injection h with h; subst h
    cases hr with
    | rp k sz i j v hm hn hv => exact ⟨_, _, hv, .rp _ _ _ _ _ hm hn (by rw [Nat.add_assoc])⟩
  · injection h with h; subst h
    cases hr with
    | ep b o _ _ f hc hrr => exact ⟨_, _, rfl, by rw [Nat.add_assoc]; exact .ep b o _ _ f hc hrr⟩
  · cases h
def fieldAddrF (P : Program) (t : TypeId) (p : AV) (i : Nat) : Res :=
  match fo P t i with
  | none => none
  | some n => match addO p n with
    | some r => some (none, r, [], [])
    | none => none
theorem fieldAddr_sound {P : Program} {o : Oper} {ev : Operand → AV} {bx : Bxs} {c : Option Bool} {r : AV} {e : List (Nat × Box)} {rd : List Nat} {t i : Nat} {x : Operand} (ho : o.op = .fieldAddr t x i)
    (h : fieldAddrF P t (ev x) i = some (c, r, e, rd)) : LocalOk P o ev bx r e rd := by
  unfold fieldAddrF at h
  split at h
  · cases h
  · rename_i n hn
    split at h
    · rename_i r' hadd
      simp only [Option.some.injEq, Prod.mk.injEq] at h
      obtain ⟨_, rfl, rfl, rfl⟩ := h
      refine LocalOk.pure fun w ρ bx' a hag hs hr => ?_
      obtain ⟨b, o', hv, hrep⟩ := addO_sound hadd (hr x (by rw [ho]; simp [Op.operands]))
      refine ⟨_, ?_, hrep⟩
      unfold fo at hn
      split at hn
      · rename_i fs hfs
        split at hn
        · rename_i f hf
          split at hn
          · rename_i inf hinf
            split at hn
            · cases hn
            · rename_i hne
              injection hn with hn
              subst hn
              simp [execOp, ho, hv, Instr.fieldAt, run_underlying hfs, hf, Instr.sureAddr, fieldPlace, sizeOf, typeInfo, hinf, hne, add_none]
          · cases hn
        · cases hn
      · cases hn
    · cases h
end Go.Cm
