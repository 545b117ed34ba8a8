/- The abstract machine, third state, part 16: more operations; the table of operations. No condition. -/
import Derived.Test.YtibcoiabdnbdjaaDoorCmx
namespace Go.Cm
open Go.RowKit
set_option linter.unusedSectionVars false
variable [Sig]

/-! fields of struct values -/
def fieldF (P : Program) (t : TypeId) (x : AV) (i : Nat) : Res :=
  match P.underlying t, x with
  | some (.struct fs), .agg cs => match fs[i]? with
    | some f => match tyI P f.type with
      | some (n, ag) => match getA cs f.offset n ag with
        | some r => some (none, r, [], [])
        | none => none
      | none => none
    | none => none
  | _, _ => none
theorem part_sound {P : Program} {t : TypeId} {n : Nat} {ag : Bool} (h : tyI P t = some (n, ag)) {w : World} {ρ : Env} {bx : Nat → Box} {off : Nat} {vs : List Value} {cs : List AV} {r : AV} (hg : getA cs off n ag = some r) (hr : RepL w ρ bx vs cs) :
    ∃ v, (part t ⟨vs⟩ off).run P w = .ok v w ∧ Rep w ρ bx v r := by
  cases ag with
  | true =>
    simp only [getA] at hg
    split at hg
    · rename_i hle
      injection hg with hg
      subst hg
      have hl := hr.1
      refine ⟨.agg ⟨(vs.drop off).take n⟩, ?_, .agg _ _ (by simp; omega) fun i v t h1 h2 => ?_⟩
      · have he : (⟨vs⟩ : Array Value).extract off (off + n) = ⟨(vs.drop off).take n⟩ := by
          apply Array.ext'
          simp [List.extract_eq_take_drop]
        simp [part, run_isAgg_of h, run_sizeOf_of h, he]
      · have hj : i < n := by have := (List.getElem?_eq_some_iff.1 h1).1; simp at this; omega
        rw [List.getElem?_take, if_pos hj, List.getElem?_drop] at h1 h2
        exact hr.2 _ v t h1 h2
    · cases hg
  | false =>
    simp only [getA] at hg
    have hlt : off < vs.length := by rw [hr.1]; exact (List.getElem?_eq_some_iff.1 hg).1
    refine ⟨vs[off], ?_, hr.2 off _ _ (List.getElem?_eq_getElem hlt) hg⟩
    simp [part, run_isAgg_of h, List.getElem?_eq_getElem hlt]
theorem field_sound {P : Program} {o : Oper} {ev : Operand → AV} {bx : Bxs} {c : Option Bool} {r : AV} {e : List (Nat × Box)} {rd : List Nat} {t i : Nat} {x : Operand} (ho : o.op = .field t x i)
    (h : fieldF P t (ev x) i = some (c, r, e, rd)) : LocalOk P o ev bx r e rd := by
  unfold fieldF at h
  split at h
  · rename_i fs cs hfs hx
    split at h
    · rename_i f hf
      split at h
      · rename_i n ag hty
        split at h
        · rename_i r' hg
          simp only [Option.some.injEq, Prod.mk.injEq] at h
          obtain ⟨_, rfl, rfl, rfl⟩ := h
          refine LocalOk.pure fun w ρ bx' a hag hs hr => ?_
          have h1 := hr x (by rw [ho]; simp [Op.operands])
          rw [hx] at h1
          obtain ⟨vs, hv, hvs⟩ := h1.inv_agg
          obtain ⟨v, g1, g2⟩ := part_sound hty hg hvs
          exact ⟨v, by simp [execOp, ho, hv, Instr.field, run_underlying hfs, hf, asAgg, g1], g2⟩
        · cases h
      · cases h
    · cases h
  · cases h

/-! structs in structs are compared -/
def eqV (rc : TypeId → List AV → List AV → Option Bool) (P : Program) (t : TypeId) (x y : AV) : Option Bool :=
  match kd P t with
  | some k => eq1 k x y
  | none => match x, y with
    | .agg xs, .agg ys => rc t xs ys
    | _, _ => none
def eqFs (rc : TypeId → List AV → List AV → Option Bool) (P : Program) (xs ys : List AV) : List Field → Option Bool
  | [] => some true
  | f :: fs => if f.name ≠ "_" then (match tyI P f.type with
    | some (n, ag) => (match getA xs f.offset n ag, getA ys f.offset n ag with
      | some x, some y => (match eqV rc P f.type x y, eqFs rc P xs ys fs with
        | some a, some r => some (a && r)
        | _, _ => none)
      | _, _ => none)
    | none => none) else none
def eqT (P : Program) : Nat → TypeId → List AV → List AV → Option Bool
  | 0, _, _, _ => none
  | d + 1, t, xs, ys => match P.underlying t with
    | some (.struct fs) => if P.stoodInHeld t = false then eqFs (eqT P d) P xs ys fs.toList else none
    | _ => none
section
variable {P : Program} {w : World} {ρ : Env} {bx : Nat → Box}
theorem eqFs_sound {rc : TypeId → List AV → List AV → Option Bool} {k : Nat} (hrc : ∀ t xs ys r us vs, rc t xs ys = some r → RepL w ρ bx us xs → RepL w ρ bx vs ys → (Op.equalIn (k + 1) t (.agg ⟨us⟩) (.agg ⟨vs⟩)).run P w = .ok r w)
    {us vs : List Value} {xs ys : List AV} (hx : RepL w ρ bx us xs) (hy : RepL w ρ bx vs ys) : ∀ (fs : List Field) (r : Bool), eqFs rc P xs ys fs = some r → (Op.eqFields (k + 1) ⟨us⟩ ⟨vs⟩ fs).run P w = .ok r w
  | [], r, h => by
    simp only [eqFs, Option.some.injEq] at h
    subst h
    simp [Op.eqFields]
  | f :: fs, r, h => by
    simp only [eqFs] at h
    split at h
    · rename_i hname
      split at h
      · rename_i n ag hty
        split at h
        · rename_i x y gx gy
          split at h
          · rename_i a r' ha hr'
            injection h with h
            obtain ⟨u, hu, hur⟩ := part_sound hty gx hx
            obtain ⟨v, hv, hvr⟩ := part_sound hty gy hy
            have ih := eqFs_sound hrc hx hy fs r' hr'
            have he : (Op.equalIn (k + 1) f.type u v).run P w = .ok a w := by
              unfold eqV at ha
              split at ha
              · rename_i kk hkk
                exact (eq1_sound hkk ha hur hvr k).2
              · split at ha
                · obtain ⟨us', rfl, hus'⟩ := hur.inv_agg
                  obtain ⟨vs', rfl, hvs'⟩ := hvr.inv_agg
                  exact hrc _ _ _ _ _ _ ha hus' hvs'
                · cases ha
            subst h
            simp only [Op.eqFields, ne_eq, hname, not_false_eq_true, if_true, Sem.run_bind, hu, hv, Result.andThen_ok, he, Sem.run_ite, ih]
            cases a <;> simp
          · cases h
        · cases h
      · cases h
    · cases h
theorem eqT_sound : ∀ (d : Nat) (t : TypeId) (xs ys : List AV) (r : Bool) (us vs : List Value) (D : Nat), eqT P d t xs ys = some r → RepL w ρ bx us xs → RepL w ρ bx vs ys → (Op.equalIn (D + d + 1) t (.agg ⟨us⟩) (.agg ⟨vs⟩)).run P w = .ok r w
  | 0, _, _, _, _, _, _, _, h, _, _ => by cases h
  | d + 1, t, xs, ys, r, us, vs, D, h, hx, hy => by
    simp only [eqT] at h
    split at h
    · rename_i fs hfs
      split at h
      · rename_i h1
        have hfo : P.fieldsOf t = fs := by simp [Program.fieldsOf, hfs]
        have e : D + (d + 1) + 1 = (D + d + 1) + 1 := by omega
        rw [e, run_equalIn_struct w (D + d + 1) t ⟨us⟩ ⟨vs⟩ (by rw [hfo]; exact hfs) h1, hfo]
        exact eqFs_sound (fun t xs ys r us vs h hx hy => eqT_sound d t xs ys r us vs D h hx hy) hx hy fs.toList r h
      · cases h
    · cases h
end
def eqNF (P : Program) (op : BinOp) (t : TypeId) (x y : AV) : Res :=
  match x, y with
  | .agg xs, .agg ys => match decide (P.eqGuardType P.depth t = false), eqT P 4 t xs ys with
    | true, some b => match eqB op b with
      | some v => some (none, .lit v, [], [])
      | none => none
    | _, _ => none
  | _, _ => none
theorem eqN_sound {P : Program} {o : Oper} {ev : Operand → AV} {bx : Bxs} {c : Option Bool} {r : AV} {e : List (Nat × Box)} {rd : List Nat} {op : BinOp} {t t' : Nat} {x y : Operand} (ho : o.op = .binOp op t x y t')
    (h : eqNF P op t (ev x) (ev y) = some (c, r, e, rd)) : LocalOk P o ev bx r e rd := by
  unfold eqNF at h
  split at h
  · rename_i xs ys hx hy
    split at h
    · rename_i b hg he
      have hg := of_decide_eq_true hg
      split at h
      · rename_i v hv
        simp only [Option.some.injEq, Prod.mk.injEq] at h
        obtain ⟨_, rfl, rfl, rfl⟩ := h
        refine LocalOk.pure fun w ρ bx' a hag hs hr => ?_
        have r1 := hr x (by rw [ho]; simp [Op.operands])
        have r2 := hr y (by rw [ho]; simp [Op.operands])
        rw [hx] at r1
        rw [hy] at r2
        obtain ⟨us, hus, hus'⟩ := r1.inv_agg
        obtain ⟨vs, hvs, hvs'⟩ := r2.inv_agg
        have hrun : (Op.equal t (.agg ⟨us⟩) (.agg ⟨vs⟩)).run P w = .ok b w := eqT_sound 4 t xs ys b us vs 9995 he hus' hvs'
        refine ⟨v, ?_, .lit _⟩
        unfold eqB at hv
        split at hv
        · cases hv
          simp [execOp, ho, hus, hvs, eqGuard, hg, binOp, hrun]
        · cases hv
          simp [execOp, ho, hus, hvs, eqGuard, hg, binOp, hrun]
        · cases hv
      · cases h
    · cases h
  · cases h

/-! bytes of strings -/
def byteAt (s : ByteArray) (z : Int) : Int := (((s[z.toNat]?).getD 0).toNat : Int)
def indexF (P : Program) (t : TypeId) (x i : AV) : Res :=
  match x, i with
  | .lit (.string s), .lit (.int _ z) => match isStringT P t with
    | true => some (some (decide (0 ≤ z) && decide (z < s.size)), .lit (.int .u8 (byteAt s z)), [], [])
    | false => none
  | _, _ => none
theorem index_sound {P : Program} {o : Oper} {ev : Operand → AV} {bx : Bxs} {c : Option Bool} {r : AV} {e : List (Nat × Box)} {rd : List Nat} {t : Nat} {x i : Operand} (ho : o.op = .index t x i)
    (h : indexF P t (ev x) (ev i) = some (c, r, e, rd)) (hc : CondP c) : LocalOk P o ev bx r e rd := by
  unfold indexF at h
  split at h
  · rename_i s k z hx hi
    split at h
    · rename_i hst
      simp only [Option.some.injEq, Prod.mk.injEq] at h
      obtain ⟨rfl, rfl, rfl, rfl⟩ := h
      obtain ⟨h0, h1⟩ := cond2 hc
      have hu : P.underlying t = some .string := by unfold isStringT at hst; split at hst <;> first | assumption | cases hst
      refine LocalOk.pure fun w ρ bx' a hag hs hr => ?_
      have r1 := hr x (by rw [ho]; simp [Op.operands])
      have r2 := hr i (by rw [ho]; simp [Op.operands])
      rw [hx] at r1
      rw [hi] at r2
      have hlt : z.toNat < s.size := by omega
      have hg : s[z.toNat]? = some s[z.toNat] := getElem?_pos s z.toNat hlt
      refine ⟨_, ?_, .lit _⟩
      simp [execOp, ho, r1.inv_lit, r2.inv_lit, Instr.index, asIntOf, run_underlying hu, h0, hg, byteAt]
    · cases h
  · cases h

/-! elements of arrays of numbers -/
def intsOf (kd : IntKind) : List AV → Option (List Int)
  | [] => some []
  | .lit (.int k z) :: as => match decide (k = kd), intsOf kd as with
    | true, some r => some (z :: r)
    | _, _ => none
  | _ :: _ => none
theorem intsOf_get {kd : IntKind} : ∀ {cs : List AV} {zs : List Int}, intsOf kd cs = some zs → ∀ j, j < cs.length → cs[j]? = some (.lit (.int kd (zs.getD j 0)))
  | [], _, _, j, hj => by simp at hj
  | a :: as, zs, h, j, hj => by
    unfold intsOf at h
    split at h
    · rename_i he; cases he
    · rename_i k z as' he
      cases he
      split at h
      · rename_i r hk hr
        have hk := of_decide_eq_true hk
        subst hk
        cases h
        match j, hj with
        | 0, _ => rfl
        | j + 1, hj => simpa using intsOf_get hr j (by simpa using hj)
      · cases h
    · cases h
def arrF (P : Program) (t : TypeId) (x i : AV) : Res :=
  match x, i, P.underlying t with
  | .agg cs, .lit (.int _ z), some (.array m e) => match P.underlying e, tyI P e with
    | some (.int kd), some (1, false) => match intsOf kd cs, decide (cs.length = m) with
      | some zs, true => some (some (decide (0 ≤ z) && decide (z < (m : Int))), .lit (.int kd (zs.getD z.toNat 0)), [], [])
      | _, _ => none
    | _, _ => none
  | _, _, _ => none
theorem arr_sound {P : Program} {o : Oper} {ev : Operand → AV} {bx : Bxs} {c : Option Bool} {r : AV} {e : List (Nat × Box)} {rd : List Nat} {t : Nat} {x i : Operand} (ho : o.op = .index t x i)
    (h : arrF P t (ev x) (ev i) = some (c, r, e, rd)) (hc : CondP c) : LocalOk P o ev bx r e rd := by
  unfold arrF at h
  split at h
  · rename_i cs k z m et hx hi hu
    split at h
    · rename_i kd hue hty
      split at h
      · rename_i zs hz hm
        have hm := of_decide_eq_true hm
        simp only [Option.some.injEq, Prod.mk.injEq] at h
        obtain ⟨rfl, rfl, rfl, rfl⟩ := h
        obtain ⟨h0, h1⟩ := cond2 hc
        refine LocalOk.pure fun w ρ bx' a hag hs hr => ?_
        have r1 := hr x (by rw [ho]; simp [Op.operands])
        have r2 := hr i (by rw [ho]; simp [Op.operands])
        rw [hx] at r1
        rw [hi] at r2
        obtain ⟨vs, hv, hvs⟩ := r1.inv_agg
        obtain ⟨v, g1, g2⟩ := part_sound (w := w) hty (off := z.toNat) (r := .lit (.int kd (zs.getD z.toNat 0))) (show getA cs z.toNat 1 false = _ from by simp only [getA]; exact intsOf_get hz _ (by omega)) hvs
        refine ⟨v, ?_, g2⟩
        simp [execOp, ho, hv, r2.inv_lit, Instr.index, asIntOf, run_underlying hu, h0, h1, run_sizeOf_of hty, g1]
      · cases h
    · cases h
  · cases h

/-! slice expressions: the bounds are looked at first -/
def sliceF2 (P : Program) (t : TypeId) (x : AV) (lo hi mx : Option AV) (bx : Bxs) : Res :=
  match lo, hi with
  | none, none => sliceF P t x none none mx bx
  | some (.lit (.int k l)), none => sliceF P t x (some (.lit (.int k l))) none mx bx
  | none, some (.lit (.int k h)) => sliceF P t x none (some (.lit (.int k h))) mx bx
  | some (.lit (.int k l)), some (.lit (.int k' h)) => sliceF P t x (some (.lit (.int k l))) (some (.lit (.int k' h))) mx bx
  | _, _ => none
theorem sliceF2_eq {P : Program} {t : TypeId} {x : AV} {lo hi mx : Option AV} {bx : Bxs} {c : Option Bool} {r : AV} {e : List (Nat × Box)} {rd : List Nat} (h : sliceF2 P t x lo hi mx bx = some (c, r, e, rd)) : sliceF P t x lo hi mx bx = some (c, r, e, rd) := by
  unfold sliceF2 at h
  split at h <;> first | exact h | cases h

/-! no nil -/
def nilF (x : AV) : Res :=
  match x with
  | .ptr k off => some (none, .ptr k off, [], [])
  | .rp k sz i j => some (none, .rp k sz i j, [], [])
  | .ep cs j => some (none, .ep cs j, [], [])
  | .clo f cs => some (none, .clo f cs, [], [])
  | _ => none
theorem nil_sound {P : Program} {o : Oper} {ev : Operand → AV} {bx : Bxs} {c : Option Bool} {r : AV} {e : List (Nat × Box)} {rd : List Nat} {x : Operand} (ho : o.op = .nilCheck x)
    (h : nilF (ev x) = some (c, r, e, rd)) : LocalOk P o ev bx r e rd := by
  have key : ∀ t : AV, ev x = t → (∀ (w : World) (ρ : Env) (bx' : Nat → Box) (v : Value), Rep w ρ bx' v t → (∃ A, v = .pointer (some A)) ∨ ∃ f vs, v = .func (.func f) #[] vs) → LocalOk P o ev bx t [] [] := by
    intro t ht hv
    refine LocalOk.pure fun w ρ bx' a hag hs hr => ?_
    have r1 := hr x (by rw [ho]; simp [Op.operands])
    rw [ht] at r1
    refine ⟨a.eval x, ?_, r1⟩
    rcases hv w ρ bx' _ r1 with ⟨A, hA⟩ | ⟨f, vs, hA⟩ <;> simp [execOp, ho, hA]
  unfold nilF at h
  split at h
  · rename_i k off hx
    simp only [Option.some.injEq, Prod.mk.injEq] at h
    obtain ⟨_, rfl, rfl, rfl⟩ := h
    exact key _ hx fun w ρ bx' v hr => .inl ⟨_, hr.inv_ptr.2⟩
  · rename_i k sz i j hx
    simp only [Option.some.injEq, Prod.mk.injEq] at h
    obtain ⟨_, rfl, rfl, rfl⟩ := h
    exact key _ hx fun w ρ bx' v hr => .inl ⟨_, hr.inv_rp.2⟩
  · rename_i cs j hx
    simp only [Option.some.injEq, Prod.mk.injEq] at h
    obtain ⟨_, rfl, rfl, rfl⟩ := h
    exact key _ hx fun w ρ bx' v hr => by obtain ⟨b, o', f, hv, _⟩ := hr.inv_ep; exact .inl ⟨_, hv⟩
  · rename_i f caps hx
    simp only [Option.some.injEq, Prod.mk.injEq] at h
    obtain ⟨_, rfl, rfl, rfl⟩ := h
    exact key _ hx fun w ρ bx' v hr => by obtain ⟨vs, hv, _⟩ := hr.inv_clo; exact .inr ⟨_, _, hv⟩
  · cases h

/-! the table; n0: the number of the next box -/
def builtinF (P : Program) (b : Builtin) (args : List AV) (ts : List TypeId) (bx : Bxs) (n0 : Nat) : Res :=
  match b, args, ts with
  | .len, [x], [t] => lenF P t (unz x) bx
  | .max, [x, y], _ => mmF true x y
  | .min, [x, y], _ => mmF false x y
  | .append, [x, y], [t, t'] => appendF P t t' x y bx n0
  | .copy, [x, y], [t, t'] => copyF P t t' x y bx
  | .unsafeSliceData, [x], [_] => sdF x
  | .unsafeString, [x, y], [pt, _] => usF P pt x y bx
  | _, _, _ => none
def opF (P : Program) (op : Op) (ty : TypeId) (ev : Operand → AV) (bx : Bxs) (n0 : Nat) : Res :=
  match op with
  | .move x => asgF P ty (ev x) n0
  | .assign x => asgF P ty (ev x) n0
  | .pick c a b => pickF (ev c) (ev a) (ev b)
  | .box t x => boxF2 P t (ev x) n0
  | .alloc t => allocF3 P t n0
  | .load t x => loadF P t (ev x) bx
  | .store t x y => storeF2 P t (ev x) (ev y) bx
  | .fieldAddr t x i => fieldAddrF P t (ev x) i
  | .indexAddr t x i => orR (indexAddrF P t (ev x) (ev i) bx) (globIdxF P t x (ev i))
  | .makeInterface t x => mkIfaceF P t (ev x)
  | .typeAssert x _ asr ok => tyAssertF P (ev x) asr ok
  | .binOp op t x y _ => orR (shiftF op (ev x) (ev y)) (orR (binF P op t (ev x) (ev y)) (eqNF P op t (ev x) (ev y)))
  | .unOp op _ x => unF op (ev x)
  | .extract x i => extractF (ev x) i
  | .build t ps => buildF2 P t (ps.toList.map fun p => (p.1, ev p.2)) n0
  | .buildSlice t len ps => buildSliceF P t len (ps.toList.map fun p => (p.1, ev p.2)) bx n0
  | .convert s d x => orR (convF P s d (ev x)) (convBF P s d (ev x) bx)
  | .makeFunc fn fi ca => makeFuncF fn (fi.toList.map ev) (ca.toList.map ev)
  | .slice t x lo hi mx => sliceF2 P t (ev x) (lo.map ev) (hi.map ev) (mx.map ev) bx
  | .field t x i => fieldF P t (ev x) i
  | .index t x i => orR (indexF P t (ev x) (ev i)) (arrF P t (ev x) (ev i))
  | .nilCheck x => nilF (ev x)
  | .makeSlice t x y => makeSliceF P t (ev x) (ev y) n0
  | .range t x => rangeF P t (ev x) n0
  | .makeMap t rs => orR (makeMapF P t (rs.map ev) n0) (makeTabF P t (rs.map ev) n0)
  | .lookup t x i ok => orR (lookupF P t (ev x) (ev i) ok bx) (lookTabF P t (ev x) (ev i) ok bx)
  | .mapUpdate t x i y => orR (mapUpdF P t (ev x) (ev i) (ev y) bx) (updTabF P t (ev x) (ev i) (ev y) bx)
  | .insert t x i y => orR (mapUpdF P t (ev x) (ev i) (ev y) bx) (updTabF P t (ev x) (ev i) (ev y) bx)
  | .call c => match c.callee with
    | .builtin b => builtinF P b (c.args.toList.map ev) c.argTypes.toList bx n0
    | _ => none
  | _ => none

/-- no new box bears a number that is read -/
theorem opF_sound {P : Program} {o : Oper} {ev : Operand → AV} {bx : Bxs} {n0 : Nat} {c : Option Bool} {r : AV} {e : List (Nat × Box)} {rd : List Nat} (h : opF P o.op o.type ev bx n0 = some (c, r, e, rd)) (hc : CondP c) (hn0 : n0 ∉ rd) : LocalOk P o ev bx r e rd := by
  cases ho : o.op <;> rw [ho] at h <;> simp only [opF] at h
  case move x => exact asg_sound (.inl ho) h
  case assign x => exact asg_sound (.inr ho) h
  case pick => exact pick_sound ho h
  case box => exact box2_sound ho h
  case alloc => exact alloc3_sound ho h
  case load => exact load_sound ho h hc
  case store => exact store2_sound ho h
  case fieldAddr => exact fieldAddr_sound ho h
  case indexAddr => exact (orR_some h).elim (fun h => indexAddr_sound ho h hc) (fun h => globIdx_sound ho h hc)
  case makeInterface => exact mkIface_sound ho h
  case typeAssert => exact tyAssert_sound ho h
  case binOp => exact (orR_some h).elim (fun h => shift_sound ho h hc) (fun h => (orR_some h).elim (fun h => bin_sound ho h hc) (fun h => eqN_sound ho h))
  case unOp => exact un_sound ho h
  case extract => exact extract_sound ho h
  case build => exact build2_sound ho h
  case buildSlice => exact buildSlice_sound ho h hn0
  case convert => exact (orR_some h).elim (fun h => conv_sound ho h) (fun h => convB_sound ho h)
  case makeFunc => exact makeFunc_sound ho h
  case slice => exact slice_sound ho (sliceF2_eq h) hc
  case field => exact field_sound ho h
  case index => exact (orR_some h).elim (fun h => index_sound ho h hc) (fun h => arr_sound ho h hc)
  case nilCheck => exact nil_sound ho h
  case makeSlice => exact makeSlice_sound ho h hc
  case range => exact range_sound ho h
  case makeMap => exact (orR_some h).elim (fun h => makeMap_sound ho h) (fun h => makeTab_sound ho h)
  case lookup => exact (orR_some h).elim (fun h => lookup_sound ho h) (fun h => lookTab_sound ho h)
  case mapUpdate => exact (orR_some h).elim (fun h => mapUpd_sound (.inl ho) h) (fun h => updTab_sound (.inl ho) h)
  case insert => exact (orR_some h).elim (fun h => mapUpd_sound (.inr ho) h) (fun h => updTab_sound (.inr ho) h)
  case call cl =>
    obtain ⟨callee, args, ats⟩ := cl
    cases callee with
    | builtin b =>
      simp only [builtinF] at h
      obtain ⟨args⟩ := args
      obtain ⟨ats⟩ := ats
      split at h
      · rename_i x t hx ht
        match args, hx with
        | [x'], hx =>
          simp at hx ht
          subst hx; subst ht
          exact LocalOk.mono (ev' := fun y => unz (ev y)) (fun _ _ _ _ _ => unz_rep) (len_sound ho h)
      · rename_i x y _ hx
        match args, hx with
        | [x', y'], hx =>
          simp at hx
          obtain ⟨rfl, rfl⟩ := hx
          exact max_sound ho h
      · rename_i x y _ hx
        match args, hx with
        | [x', y'], hx =>
          simp at hx
          obtain ⟨rfl, rfl⟩ := hx
          exact min_sound ho h
      · rename_i x y t t' hx ht
        match args, hx with
        | [x', y'], hx =>
          simp at hx ht
          obtain ⟨rfl, rfl⟩ := hx
          subst ht
          exact append_sound ho h hc hn0
      · rename_i x y t t' hx ht
        match args, hx with
        | [x', y'], hx =>
          simp at hx ht
          obtain ⟨rfl, rfl⟩ := hx
          subst ht
          exact copy_sound ho h hc
      · rename_i x t hx ht
        match args, hx with
        | [x'], hx =>
          simp at hx ht
          subst hx; subst ht
          exact sd_sound ho h
      · rename_i x y t t' hx ht
        match args, hx with
        | [x', y'], hx =>
          simp at hx ht
          obtain ⟨rfl, rfl⟩ := hx
          subst ht
          exact us_sound ho h hc
      · cases h
    | value f => cases h
    | invoke => cases h
  all_goals cases h
end Go.Cm
