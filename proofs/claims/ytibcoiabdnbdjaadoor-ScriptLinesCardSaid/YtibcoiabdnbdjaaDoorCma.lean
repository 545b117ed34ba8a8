/- The abstract machine, third state, part 10: closures, fields of values, slice expressions. No condition. -/
import Derived.Test.YtibcoiabdnbdjaaDoorCm9
namespace Go.Cm
open Go.RowKit
set_option linter.unusedSectionVars false
variable [Sig]

def makeFuncF (fn : Fn) (first : List AV) (caps : List AV) : Res :=
  match fn, first with
  | .func f, [] => some (none, .clo f caps, [], [])
  | .func f, x :: xs => match caps with
    | [] => some (none, .bnd f (x :: xs), [], [])
    | _ :: _ => none
  | _, _ => none
theorem makeFunc_sound {P : Program} {o : Oper} {ev : Operand → AV} {bx : Bxs} {c : Option Bool} {r : AV} {e : List (Nat × Box)} {rd : List Nat} {fn : Fn} {fi ca : Array Operand} (ho : o.op = .makeFunc fn fi ca)
    (h : makeFuncF fn (fi.toList.map ev) (ca.toList.map ev) = some (c, r, e, rd)) : LocalOk P o ev bx r e rd := by
  unfold makeFuncF at h
  split at h
  · rename_i f hfi
    simp only [Option.some.injEq, Prod.mk.injEq] at h
    obtain ⟨_, rfl, rfl, rfl⟩ := h
    refine LocalOk.pure fun w ρ bx' a hag hs hr => ?_
    have hf0 : fi = #[] := by
      obtain ⟨l⟩ := fi
      cases l with
      | nil => rfl
      | cons x l => simp at hfi
    subst hf0
    refine ⟨.func (.func f) #[] ⟨ca.toList.map a.eval⟩, ?_, .clo f _ _ (by simp) (fun i v t h1 h2 => ?_)⟩
    · have he : (⟨ca.toList.map a.eval⟩ : Array Value) = ca.map a.eval := by apply Array.ext'; simp
      simp [execOp, ho, Instr.makeFunc, he]
    · rw [List.getElem?_map] at h1 h2
      cases hi : ca.toList[i]? with
      | none => rw [hi] at h1; cases h1
      | some x =>
        rw [hi] at h1 h2
        simp at h1 h2
        subst h1; subst h2
        refine hr x ?_
        rw [ho]
        have := List.mem_of_getElem? hi
        simp only [Op.operands, Array.mem_append]
        exact .inr (by simpa using this)
  · rename_i f y ys hfi
    split at h
    · rename_i hca
      simp only [Option.some.injEq, Prod.mk.injEq] at h
      obtain ⟨_, rfl, rfl, rfl⟩ := h
      refine LocalOk.pure fun w ρ bx' a hag hs hr => ?_
      have hc0 : ca = #[] := by
        obtain ⟨l⟩ := ca
        cases l with
        | nil => rfl
        | cons x l => simp at hca
      subst hc0
      rw [← hfi]
      refine ⟨.func (.func f) ⟨fi.toList.map a.eval⟩ #[], ?_, .bnd f _ _ (by simp) (fun i v t h1 h2 => ?_)⟩
      · have he : (⟨fi.toList.map a.eval⟩ : Array Value) = fi.map a.eval := by apply Array.ext'; simp
        simp [execOp, ho, Instr.makeFunc, he]
      · rw [List.getElem?_map] at h1 h2
        cases hi : fi.toList[i]? with
        | none => rw [hi] at h1; cases h1
        | some x =>
          rw [hi] at h1 h2
          simp at h1 h2
          subst h1; subst h2
          refine hr x ?_
          rw [ho]
          have := List.mem_of_getElem? hi
          simp only [Op.operands, Array.mem_append]
          exact .inl (by simpa using this)
    · cases h
  · cases h

/-! slice expressions -/
def loHi (n : Nat) (lo hi : Option AV) : Option (Int × Int) :=
  match lo, hi with
  | none, none => some (0, n)
  | some (.lit (.int _ l)), none => some (l, n)
  | none, some (.lit (.int _ h)) => some (0, h)
  | some (.lit (.int _ l)), some (.lit (.int _ h)) => some (l, h)
  | _, _ => none
/-- the condition of the bounds -/
def condLH (n : Nat) (lo hi : Option AV) : Option Bool :=
  match lo, hi with
  | none, none => none
  | some (.lit (.int _ l)), none => some (decide (0 ≤ l) && decide (l ≤ n))
  | none, some (.lit (.int _ h)) => some (decide (0 ≤ h) && decide (h ≤ n))
  | some (.lit (.int _ l)), some (.lit (.int _ h)) => some (decide (0 ≤ l) && (decide (l ≤ h) && decide (h ≤ n)))
  | _, _ => some false
def cutL {α : Type} (l : List α) (lo hi : Option AV) : List α :=
  match lo, hi with
  | some (.lit (.int _ a)), none => l.drop a.toNat
  | none, some (.lit (.int _ b)) => l.take b.toNat
  | some (.lit (.int _ a)), some (.lit (.int _ b)) => (l.take b.toNat).drop a.toNat
  | _, _ => l
def RowOf.cut (q : Row) (lo hi : Option AV) : Row := ⟨q.e, cutL q.l lo hi⟩
theorem condLH_spec {n : Nat} {lo hi : Option AV} {l h : Int} (hlh : loHi n lo hi = some (l, h)) (hc : CondP (condLH n lo hi)) : 0 ≤ l ∧ l ≤ h ∧ h ≤ n := by
  unfold loHi at hlh
  split at hlh <;> simp only [Option.some.injEq, Prod.mk.injEq, reduceCtorEq] at hlh <;> obtain ⟨rfl, rfl⟩ := hlh <;> simp only [condLH, CondP, Bool.and_eq_true, decide_eq_true_eq] at hc <;> omega
theorem cut_spec {q : Row} {lo hi : Option AV} {l h : Int} (hlh : loHi q.n lo hi = some (l, h)) (h0 : 0 ≤ l) (h1 : l ≤ h) (h2 : h ≤ q.n) :
    (q.cut lo hi).n = h.toNat - l.toNat ∧ (q.cut lo hi).sz = q.sz ∧ ∀ i, i < (q.cut lo hi).n → (q.cut lo hi).g i = q.g (l.toNat + i) := by
  obtain ⟨e, xs⟩ := q
  have hn : ∀ ys : List (Sig.Car e), RowOf.n ⟨e, ys⟩ = ys.length := fun _ => rfl
  have hg : ∀ (ys : List (Sig.Car e)) (i : Nat), RowOf.g ⟨e, ys⟩ i = Sig.enc e ((ys[i]?).getD (Sig.dft e)) := fun _ _ => rfl
  have hk : ∀ ys : List (Sig.Car e), (∀ i, i < ys.length → ys[i]? = xs[l.toNat + i]?) → ys.length = h.toNat - l.toNat → RowOf.n ⟨e, ys⟩ = h.toNat - l.toNat ∧ RowOf.sz ⟨e, ys⟩ = RowOf.sz ⟨e, xs⟩ ∧ ∀ i, i < RowOf.n ⟨e, ys⟩ → RowOf.g ⟨e, ys⟩ i = RowOf.g ⟨e, xs⟩ (l.toNat + i) :=
    fun ys hy hl => ⟨hl, rfl, fun i hi => by rw [hg, hg, hy i hi]⟩
  rw [hn] at h2
  show RowOf.n ⟨e, cutL xs lo hi⟩ = _ ∧ RowOf.sz ⟨e, cutL xs lo hi⟩ = _ ∧ ∀ i, i < RowOf.n ⟨e, cutL xs lo hi⟩ → RowOf.g ⟨e, cutL xs lo hi⟩ i = _
  unfold loHi at hlh
  rw [hn] at hlh
  split at hlh <;> simp only [Option.some.injEq, Prod.mk.injEq, reduceCtorEq] at hlh <;> obtain ⟨rfl, rfl⟩ := hlh <;> refine hk _ (fun i hi => ?_) ?_
  · simp [cutL]
  · simp [cutL]
  · simp only [cutL, List.getElem?_drop]
  · simp only [cutL, List.length_drop]; omega
  · simp only [cutL, List.length_take] at hi
    simp only [cutL, List.getElem?_take, Int.toNat_zero, Nat.zero_add]
    rw [if_pos (by omega)]
  · simp only [cutL, List.length_take]; omega
  · simp only [cutL, List.length_drop, List.length_take] at hi
    simp only [cutL, List.getElem?_drop, List.getElem?_take]
    rw [if_pos (by omega)]
  · simp only [cutL, List.length_drop, List.length_take]; omega

def sliceF (P : Program) (t : TypeId) (x : AV) (lo hi mx : Option AV) (bx : Bxs) : Res :=
  match mx with
  | some (.lit (.int _ 0)) =>
    match slT P t with
    | none => none
    | some e =>
      match lo, hi, tyI P e with
      | none, some (.lit (.int _ 0)), some _ =>
        match x with
        | .sl _ => some (none, .e0, [], [])
        | .e0 => some (none, .e0, [], [])
        | .row _ => some (none, .e0, [], [])
        | _ => none
      | _, _, _ => none
  | some _ => none
  | none =>
    match x with
    | .sl q => match slT P t, loHi q.n lo hi with
      | some e, some _ => match tyI P e with
        | some (sz, _) => match q.sz == sz with
          | true => some (condLH q.n lo hi, .sl (q.cut lo hi), [], [])
          | false => none
        | none => none
      | _, _ => none
    | .row k => match rowOf (bget bx k) with
      | some q => match slT P t, loHi q.n lo hi with
        | some e, some _ => match tyI P e with
          | some (sz, _) => match q.sz == sz with
            | true => some (condLH q.n lo hi, .sl (q.cut lo hi), frzE bx [k], [k])
            | false => none
          | none => none
        | _, _ => none
      | none => none
    | .lit (.string s) => match isStringT P t, loHi s.size lo hi with
      | true, some (l, h) => some (condLH s.size lo hi, .lit (.string (s.extract l.toNat h.toNat)), [], [])
      | _, _ => none
    | _ => none

theorem run_bounds {P : Program} {w : World} {b : Bool} {n cap : Nat} {ev : Operand → AV} {a : Act} {ρ : Env} {bx : Nat → Box} {lo hi : Option Operand} {l h : Int} (hb : loHi n (lo.map ev) (hi.map ev) = some (l, h))
    (hlo : ∀ x, lo = some x → Rep w ρ bx (a.eval x) (ev x)) (hhi : ∀ x, hi = some x → Rep w ρ bx (a.eval x) (ev x)) (h0 : 0 ≤ l) (h1 : l ≤ h) (h2 : h ≤ n) (hc : n ≤ cap) :
    (Instr.sliceBounds b n cap (lo.map a.eval) (hi.map a.eval) none).run P w = .ok (l.toNat, h.toNat, cap) w := by
  have hcap : h ≤ (cap : Int) := by omega
  have hnn : (n : Int).toNat = n := by omega
  unfold loHi at hb
  split at hb
  · rename_i e1 e2
    simp only [Option.some.injEq, Prod.mk.injEq] at hb
    obtain ⟨rfl, rfl⟩ := hb
    have e1 : lo = none := by cases lo <;> simp_all
    have e2 : hi = none := by cases hi <;> simp_all
    subst e1; subst e2
    simp [Instr.sliceBounds]
  · rename_i k z e1 e2
    simp only [Option.some.injEq, Prod.mk.injEq] at hb
    obtain ⟨rfl, rfl⟩ := hb
    have e2 : hi = none := by cases hi <;> simp_all
    subst e2
    cases lo with
    | none => cases e1
    | some x =>
      have hr := hlo x rfl
      simp only [Option.map_some, Option.some.injEq] at e1
      rw [e1] at hr
      have hv := hr.inv_lit
      simp [Instr.sliceBounds, Instr.sliceBound, hv, asIntOf, h0, h1]
  · rename_i k z e1 e2
    simp only [Option.some.injEq, Prod.mk.injEq] at hb
    obtain ⟨rfl, rfl⟩ := hb
    have e1 : lo = none := by cases lo <;> simp_all
    subst e1
    cases hi with
    | none => cases e2
    | some x =>
      have hr := hhi x rfl
      simp only [Option.map_some, Option.some.injEq] at e2
      rw [e2] at hr
      have hv := hr.inv_lit
      simp [Instr.sliceBounds, Instr.sliceBound, hv, asIntOf, h1, hcap]
  · rename_i k z k' z' e1 e2
    simp only [Option.some.injEq, Prod.mk.injEq] at hb
    obtain ⟨rfl, rfl⟩ := hb
    cases hi with
    | none => cases e2
    | some x =>
      cases lo with
      | none => cases e1
      | some y =>
        have hr := hhi x rfl
        have hr' := hlo y rfl
        simp only [Option.map_some, Option.some.injEq] at e1 e2
        rw [e2] at hr
        rw [e1] at hr'
        have hv := hr.inv_lit
        have hv' := hr'.inv_lit
        have h3 : 0 ≤ z' := by omega
        simp [Instr.sliceBounds, Instr.sliceBound, hv, hv', asIntOf, h0, h3, hcap]
        intro h5
        omega
  · cases hb

theorem RepT.sub {w : World} {ok : Nat → Prop} {A : Option Addr} {len cap : Nat} {q q' : Row} (h : RepT w ok (.slice A len cap) (.sl q)) {l hh : Nat} (h1 : l ≤ hh) (h2 : hh ≤ q.n)
    (hn : q'.n = hh - l) (hz : q'.sz = q.sz) (hg : ∀ i, i < q'.n → q'.g i = q.g (l + i)) :
    RepT w ok (.slice (if cap = l then A else A.map (·.add (l * q.sz))) (hh - l) (cap - l)) (.sl q') := by
  cases h with
  | sl A len cap _ f hlen hcap hmax hone hcc hrr =>
    by_cases h0 : hh - l = 0
    · rw [h0]
      exact .sl _ 0 _ _ (fun _ _ => undef) (by omega) (Nat.zero_le _) (by omega) (fun i j hi => by omega) (fun i j hi => by omega) (fun i j t hi => by omega)
    · rw [if_neg (by omega)]
      refine .sl _ (hh - l) _ _ (fun i j => f (l + i) j) hn (by omega) (by omega) (fun i j hi hj => hone _ _ (by omega) (by omega)) (fun i j hi hj => ?_) (fun i j t hi ht => ?_)
      · obtain ⟨ad, ha, hsp, hok, hcell⟩ := hcc (l + i) j (by omega) (by omega)
        obtain ⟨b, oo, sp⟩ := ad
        simp only at hsp
        subst hsp
        subst ha
        refine ⟨⟨b, oo + l * q.sz, none⟩, by simp [add_none], rfl, hok, ?_⟩
        simp only at hcell ⊢
        rw [Nat.add_mul, Nat.add_assoc, ← Nat.add_assoc] at hcell
        rw [hz]
        exact hcell
      · rw [hg i hi] at ht
        exact hrr _ j t (by omega) ht

theorem exec_slice {P : Program} {o : Oper} {t e sz : Nat} {ag : Bool} {x : Operand} {lo hi : Option Operand} (ho : o.op = .slice t x lo hi none) (hu : P.underlying t = some (.slice e)) (hty : tyI P e = some (sz, ag)) {a : Act} {w : World} {A : Option Addr} {len cap l h : Nat}
    (hx : a.eval x = .slice A len cap) (hb : (Instr.sliceBounds true len cap (lo.map a.eval) (hi.map a.eval) none).run P w = .ok (l, h, cap) w) :
    (execOp a.eval o).run P w = .ok (.value (.slice (if cap = l then A else A.map (·.add (l * sz))) (h - l) (cap - l))) w := by
  simp [execOp, ho, Instr.sliceAt, Instr.slice, run_underlying hu, hx, hb, run_sizeOf_of hty]

theorem exec_slice0 {P : Program} {o : Oper} {t e sz : Nat} {ag : Bool} {x h m : Operand} (ho : o.op = .slice t x none (some h) (some m)) (hu : P.underlying t = some (.slice e)) (hty : tyI P e = some (sz, ag)) {a : Act} {w : World} {A : Option Addr} {len cap : Nat} {k k' : IntKind}
    (hx : a.eval x = .slice A len cap) (hh : a.eval h = .int k 0) (hm : a.eval m = .int k' 0) :
    (execOp a.eval o).run P w = .ok (.value (.slice A 0 0)) w := by
  have hc : (0 : Int) ≤ (cap : Int) := by omega
  simp [execOp, ho, Instr.sliceAt, Instr.slice, run_underlying hu, hx, Instr.sliceBounds, Instr.sliceBound, hh, hm, asIntOf, hc, run_sizeOf_of hty]

theorem slice_sound {P : Program} {o : Oper} {ev : Operand → AV} {bx : Bxs} {c : Option Bool} {r : AV} {e : List (Nat × Box)} {rd : List Nat} {t : Nat} {x : Operand} {lo hi mx : Option Operand} (ho : o.op = .slice t x lo hi mx)
    (h : sliceF P t (ev x) (lo.map ev) (hi.map ev) (mx.map ev) bx = some (c, r, e, rd)) (hc : CondP c) : LocalOk P o ev bx r e rd := by
  unfold sliceF at h
  have hops : ∀ {w : World} {ρ : Env} {bx' : Nat → Box} {a : Act}, (∀ x, x ∈ o.op.operands → Rep w ρ bx' (a.eval x) (ev x)) →
      Rep w ρ bx' (a.eval x) (ev x) ∧ (∀ y, lo = some y → Rep w ρ bx' (a.eval y) (ev y)) ∧ (∀ y, hi = some y → Rep w ρ bx' (a.eval y) (ev y)) ∧ (∀ y, mx = some y → Rep w ρ bx' (a.eval y) (ev y)) := by
    intro w ρ bx' a hr
    refine ⟨hr x (by rw [ho]; simp [Op.operands]), fun y hy => hr y (by rw [ho, hy]; simp [Op.operands]), fun y hy => hr y (by rw [ho, hy]; simp [Op.operands]), fun y hy => hr y (by rw [ho, hy]; simp [Op.operands])⟩
  split at h
  · rename_i kk hmx
    split at h
    · cases h
    · rename_i et het
      split at h
      · rename_i k2 p hlo hhi hty
        obtain ⟨sz, ag⟩ := p
        have hlo : lo = none := by cases lo <;> simp_all
        subst hlo
        cases hi with
        | none => cases hhi
        | some hh =>
          cases mx with
          | none => cases hmx
          | some mm =>
            simp only [Option.map_some, Option.some.injEq] at hhi hmx
            have hdone : ∀ {w : World} {ρ : Env} {bx' : Nat → Box} {a : Act}, (∀ x, x ∈ o.op.operands → Rep w ρ bx' (a.eval x) (ev x)) → (∃ A n c, a.eval x = .slice A n c) → ∃ v', (execOp a.eval o).run P w = .ok (.value v') w ∧ Rep w ρ bx' v' .e0 := by
              intro w ρ bx' a hr ⟨A, n, c, hx⟩
              obtain ⟨_, _, r3, r4⟩ := hops hr
              have r3 := r3 hh rfl
              have r4 := r4 mm rfl
              rw [hhi] at r3
              rw [hmx] at r4
              exact ⟨_, exec_slice0 ho (slT_spec het) hty hx r3.inv_lit r4.inv_lit, .e0 A⟩
            split at h
            · rename_i q hx
              simp only [Option.some.injEq, Prod.mk.injEq] at h
              obtain ⟨rfl, rfl, rfl, rfl⟩ := h
              refine LocalOk.pure fun w ρ bx' a hag hs hr => hdone hr ?_
              have r1 := (hops hr).1
              rw [hx] at r1
              have hsl := r1.inv_sl
              generalize a.eval x = v at hsl ⊢
              cases hsl with
              | sl A len cap _ f hlen hcap hmax hone hcc hrr => exact ⟨_, _, _, rfl⟩
            · rename_i hx
              simp only [Option.some.injEq, Prod.mk.injEq] at h
              obtain ⟨rfl, rfl, rfl, rfl⟩ := h
              refine LocalOk.pure fun w ρ bx' a hag hs hr => hdone hr ?_
              have r1 := (hops hr).1
              rw [hx] at r1
              obtain ⟨A, hv⟩ := r1.inv_e0
              exact ⟨_, _, _, hv⟩
            · rename_i k hx
              simp only [Option.some.injEq, Prod.mk.injEq] at h
              obtain ⟨rfl, rfl, rfl, rfl⟩ := h
              refine LocalOk.pure fun w ρ bx' a hag hs hr => hdone hr ?_
              have r1 := (hops hr).1
              rw [hx] at r1
              generalize a.eval x = v at r1 ⊢
              cases r1 with
              | row k v hm hs hv => exact hs
            · cases h
      · cases h
  · cases h
  · rename_i hmx
    have hmx : mx = none := by cases mx <;> simp_all
    subst hmx
    split at h
    · rename_i q hx
      split at h
      · rename_i et p het hlh
        obtain ⟨l, hh⟩ := p
        split at h
        · rename_i sz ag hty
          split at h
          · rename_i hchk
            simp only [Option.some.injEq, Prod.mk.injEq] at h
            obtain ⟨rfl, rfl, rfl, rfl⟩ := h
            obtain ⟨h0, h1, h2⟩ := condLH_spec hlh hc
            have hss : q.sz = sz := by simpa using hchk
            obtain ⟨c1, c2, c3⟩ := cut_spec hlh h0 h1 h2
            refine LocalOk.pure fun w ρ bx' a hag hs hr => ?_
            obtain ⟨r1, r2, r3, _⟩ := hops hr
            rw [hx] at r1
            have hsl := r1.inv_sl
            generalize hv : a.eval x = v at hsl
            have hsl' := hsl
            cases hsl' with
            | sl A len cap _ f hlen hcap hmax hone hcc hrr =>
              have hb := run_bounds (P := P) (w := w) (b := true) (cap := cap) hlh r2 r3 h0 h1 h2 (by omega)
              rw [hlen] at hb
              refine ⟨_, exec_slice ho (slT_spec het) hty hv hb, .sl _ _ ?_⟩
              rw [← hss]
              exact hsl.sub (by omega) (by omega) c1 c2 c3
          · cases h
        · cases h
      · cases h
    · rename_i k hx
      split at h
      · rename_i q hk
        split at h
        · rename_i et p het hlh
          obtain ⟨l, hh⟩ := p
          split at h
          · rename_i sz ag hty
            split at h
            · rename_i hchk
              simp only [Option.some.injEq, Prod.mk.injEq] at h
              obtain ⟨rfl, rfl, rfl, rfl⟩ := h
              obtain ⟨h0, h1, h2⟩ := condLH_spec hlh hc
              have hss : q.sz = sz := by simpa using hchk
              obtain ⟨c1, c2, c3⟩ := cut_spec hlh h0 h1 h2
              refine LocalOk.run fun w ρ bx' a hag hnew hs hr => ?_
              obtain ⟨r1, r2, r3, _⟩ := hops hr
              rw [hx] at r1
              obtain ⟨he1, hs1, hf1⟩ := hs.frzs [k] bx' hag rfl
              obtain ⟨e', hb'⟩ := hf1 k (by simp) q hk
              have hbx := hs1.box k
              rw [hb'] at hbx
              have hsl := frz_repT hbx
              have hv := r1.inv_row.2
              generalize hd : ρ.hd k = v at *
              have hsl' := hsl
              cases hsl' with
              | sl A len cap _ f hlen hcap hmax hone hcc hrr =>
                have hb := run_bounds (P := P) (w := w) (b := true) (cap := cap) hlh r2 r3 h0 h1 h2 (by omega)
                rw [hlen] at hb
                have hrun := exec_slice ho (slT_spec het) hty hv hb
                refine ⟨_, _, w, ρ, hrun, .inl rfl, he1, hs1, .sl _ _ ?_⟩
                rw [← hss]
                exact hsl.sub (by omega) (by omega) c1 c2 c3
            · cases h
          · cases h
        · cases h
      · cases h
    · rename_i s hx
      split at h
      · rename_i l hh hst hlh
        simp only [Option.some.injEq, Prod.mk.injEq] at h
        obtain ⟨rfl, rfl, rfl, rfl⟩ := h
        obtain ⟨h0, h1, h2⟩ := condLH_spec hlh hc
        refine LocalOk.pure fun w ρ bx' a hag hs hr => ?_
        obtain ⟨r1, r2, r3, _⟩ := hops hr
        rw [hx] at r1
        have hv := r1.inv_lit
        have hu : P.underlying t = some .string := by unfold isStringT at hst; split at hst <;> first | assumption | cases hst
        have hb := run_bounds (P := P) (w := w) (b := false) (cap := s.size) hlh r2 r3 h0 h1 h2 (Nat.le_refl _)
        exact ⟨_, by simp [execOp, ho, Instr.sliceAt, Instr.slice, run_underlying hu, hv, hb], .lit _⟩
      · cases h
    · cases h
end Go.Cm
