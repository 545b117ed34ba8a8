/- The abstract machine, third state, part 4: indexing, arithmetic, comparisons, struct values, len, min, max, conversions. No condition. -/
import Derived.Test.YtibcoiabdnbdjaaDoorCm3
namespace Go.Cm
open Go.RowKit
set_option linter.unusedSectionVars false
variable [Sig]

/-! indexing -/
def ixT (P : Program) (t : TypeId) : Option (Option Nat × Nat) :=
  match P.underlying t with
  | some (.slice e) => match tyI P e with
    | some (n, _) => some (none, n)
    | none => none
  | some (.array len e) => match tyI P e with
    | some (n, _) => some (some len, n)
    | none => none
  | _ => none
def indexAddrF (P : Program) (t : TypeId) (x i : AV) (bx : Bxs) : Res :=
  match i with
  | .lit (.int _ z) =>
    match ixT P t with
    | some (none, n) => match x with
      | .sl q => match q.sz == n && decide (0 < n) with
        | true => some (some (decide (0 ≤ z) && decide (z < q.n)), .ep (q.g z.toNat) 0, [], [])
        | false => none
      | .row k => match rowOf (bget bx k) with
        | some q => match q.sz == n && decide (0 < n) with
          | true => some (some (decide (0 ≤ z) && decide (z < q.n)), .rp k q.sz z.toNat 0, [], [k])
          | false => none
        | none => none
      | _ => none
    | some (some len, n) => match addO x (z.toNat * n) with
      | some r => some (some (decide (0 ≤ z) && decide (z < len)), r, [], [])
      | none => none
    | none => none
  | _ => none

theorem ixT_slice {P : Program} {t n : Nat} (h : ixT P t = some (none, n)) : ∃ e ag, P.underlying t = some (.slice e) ∧ tyI P e = some (n, ag) := by
  unfold ixT at h
  split at h
  · rename_i e he
    split at h
    · rename_i m ag hm
      simp only [Option.some.injEq, Prod.mk.injEq, true_and] at h
      subst h
      exact ⟨e, ag, he, hm⟩
    · cases h
  · split at h <;> simp at h
  · cases h
theorem ixT_array {P : Program} {t n len : Nat} (h : ixT P t = some (some len, n)) : ∃ e ag, P.underlying t = some (.array len e) ∧ tyI P e = some (n, ag) := by
  unfold ixT at h
  split at h
  · split at h <;> simp at h
  · rename_i l e he
    split at h
    · rename_i m ag hm
      simp only [Option.some.injEq, Prod.mk.injEq] at h
      obtain ⟨rfl, rfl⟩ := h
      exact ⟨e, ag, he, hm⟩
    · cases h
  · cases h

theorem cond2 {p q : Prop} [Decidable p] [Decidable q] (h : CondP (some (decide p && decide q))) : p ∧ q := by
  simpa [CondP] using h

theorem exec_index_slice {P : Program} {o : Oper} {t n e : Nat} {ag : Bool} {x i : Operand} (ho : o.op = .indexAddr t x i) (hu : P.underlying t = some (.slice e)) (ht : tyI P e = some (n, ag)) {a : Act} {w : World} {ad : Addr} {len cap : Nat} {k : IntKind} {z : Int}
    (hx : a.eval x = .slice (some ad) len cap) (hi : a.eval i = .int k z) (h0 : 0 ≤ z) (h1 : z < len) :
    (execOp a.eval o).run P w = .ok (.value (.pointer (some (ad.add (z.toNat * n))))) w := by
  simp [execOp, ho, hx, hi, Instr.indexAt, asIntOf, run_underlying hu, run_sizeOf_of ht, h0, h1]

theorem indexAddr_sound {P : Program} {o : Oper} {ev : Operand → AV} {bx : Bxs} {c : Option Bool} {r : AV} {e : List (Nat × Box)} {rd : List Nat} {t : Nat} {x i : Operand} (ho : o.op = .indexAddr t x i)
    (h : indexAddrF P t (ev x) (ev i) bx = some (c, r, e, rd)) (hc : CondP c) : LocalOk P o ev bx r e rd := by
  unfold indexAddrF at h
  split at h
  · rename_i k z hi
    split at h
    · rename_i n hn
      obtain ⟨et, ag, hu, ht⟩ := ixT_slice hn
      split at h
      · rename_i q hx
        split at h
        · rename_i hchk
          simp only [Option.some.injEq, Prod.mk.injEq] at h
          obtain ⟨rfl, rfl, rfl, rfl⟩ := h
          obtain ⟨h0, h1⟩ := cond2 hc
          simp only [Bool.and_eq_true, beq_iff_eq, decide_eq_true_eq] at hchk
          obtain ⟨h2, h3⟩ := hchk
          refine LocalOk.pure fun w ρ bx' a hag hs hr => ?_
          have hxr := hr x (by rw [ho]; simp [Op.operands])
          have hir := hr i (by rw [ho]; simp [Op.operands])
          rw [hx] at hxr
          rw [hi] at hir
          have hiv := hir.inv_lit
          have hsl := hxr.inv_sl
          have hlt : z.toNat < q.n := by omega
          generalize hv : a.eval x = v at hsl
          cases hsl with
          | sl A len cap _ f hlen hcap hmax hone hcc hrr =>
            subst h2
            obtain ⟨ad, ha, hsp, hok, hcell⟩ := hcc z.toNat 0 hlt h3
            subst ha
            have hrun := exec_index_slice (w := w) ho hu ht hv hiv h0 (by omega)
            obtain ⟨b, oo, sp⟩ := ad
            simp only at hsp
            subst hsp
            rw [add_none] at hrun
            refine ⟨_, hrun, ?_⟩
            have := Rep.ep (w := w) (ρ := ρ) (bx := bx') b (oo + z.toNat * q.sz) (q.g z.toNat) 0 (f z.toNat) (fun j t hj => by
              obtain ⟨ad', ha', _, hok', hcell'⟩ := hcc z.toNat j hlt (by rw [← q.g_len z.toNat]; exact (List.getElem?_eq_some_iff.1 hj).1)
              injection ha' with ha'
              subst ha'
              exact ⟨hok', by rw [Nat.add_assoc]; exact hcell'⟩) (fun j t hj => hrr _ j t hlt hj)
            exact this
        · cases h
      · rename_i k' hx
        split at h
        · rename_i q hk
          split at h
          · rename_i hchk
            simp only [Option.some.injEq, Prod.mk.injEq] at h
            obtain ⟨rfl, rfl, rfl, rfl⟩ := h
            obtain ⟨h0, h1⟩ := cond2 hc
            simp only [Bool.and_eq_true, beq_iff_eq, decide_eq_true_eq] at hchk
            obtain ⟨h2, h3⟩ := hchk
            subst h2
            refine LocalOk.pure fun w ρ bx' a hag hs hr => ?_
            have hxr := hr x (by rw [ho]; simp [Op.operands])
            have hir := hr i (by rw [ho]; simp [Op.operands])
            rw [hx] at hxr
            rw [hi] at hir
            have hiv := hir.inv_lit
            obtain ⟨hm, hv⟩ := hxr.inv_row
            have hb := hs.box k'
            rw [hag k' (by simp)] at hb
            obtain ⟨e', xs, hown, _, hβ⟩ := hb.rowOf hk
            obtain ⟨g, cap, cur, hv', hob, _⟩ := hown.block (by omega)
            have hg := hβ g hob
            have hrun := exec_index_slice (w := w) ho hu ht (hv.trans hv') hiv h0 h1
            rw [add_none, Nat.zero_add] at hrun
            exact ⟨_, hrun, .rp k' q.sz z.toNat 0 _ hm ⟨_, _, _, hv', by omega⟩ (by rw [hg, Nat.add_zero])⟩
          · cases h
        · cases h
      · cases h
    · rename_i len n hn
      obtain ⟨et, ag, hu, ht⟩ := ixT_array hn
      split at h
      · rename_i r' hadd
        simp only [Option.some.injEq, Prod.mk.injEq] at h
        obtain ⟨rfl, rfl, rfl, rfl⟩ := h
        obtain ⟨h0, h1⟩ := cond2 hc
        refine LocalOk.pure fun w ρ bx' a hag hs hr => ?_
        have hir := hr i (by rw [ho]; simp [Op.operands])
        rw [hi] at hir
        have hiv := hir.inv_lit
        obtain ⟨b, o', hv, hrep⟩ := addO_sound hadd (hr x (by rw [ho]; simp [Op.operands]))
        refine ⟨_, ?_, hrep⟩
        simp [execOp, ho, hv, hiv, Instr.indexAt, asIntOf, run_underlying hu, run_sizeOf_of ht, h0, h1, Instr.sureAddr, add_none]
      · cases h
    · cases h
  · cases h

/-! arithmetic and comparisons -/
def andI (k : IntKind) (a b : Int) : Int := k.wrap (BitVec.ofInt k.bits a &&& BitVec.ofInt k.bits b).toNat
def orI (k : IntKind) (a b : Int) : Int := k.wrap (BitVec.ofInt k.bits a ||| BitVec.ofInt k.bits b).toNat
def xorI (k : IntKind) (a b : Int) : Int := k.wrap (BitVec.ofInt k.bits a ^^^ BitVec.ofInt k.bits b).toNat
def andnI (k : IntKind) (a b : Int) : Int := k.wrap (BitVec.ofInt k.bits a &&& ~~~BitVec.ofInt k.bits b).toNat
def shlI (k : IntKind) (a b : Int) : Int := k.wrap (a * 2 ^ (min b.toNat k.bits))
def shrI (k : IntKind) (a b : Int) : Int := a.fdiv (2 ^ (min b.toNat k.bits))
def intF (op : BinOp) (k : IntKind) (a b : Int) : Option (Option Bool × Value) :=
  match op with
  | .add => some (none, .int k (k.wrap (a + b)))
  | .sub => some (none, .int k (k.wrap (a - b)))
  | .mul => some (none, .int k (k.wrap (a * b)))
  | .quo => some (some (b != 0), .int k (k.wrap (a.tdiv b)))
  | .rem => some (some (b != 0), .int k (a.tmod b))
  | .and => some (none, .int k (andI k a b))
  | .or => some (none, .int k (orI k a b))
  | .xor => some (none, .int k (xorI k a b))
  | .andNot => some (none, .int k (andnI k a b))
  | .eql => some (none, .bool (a == b))
  | .neq => some (none, .bool (a != b))
  | .lss => some (none, .bool (decide (a < b)))
  | .leq => some (none, .bool (decide (a ≤ b)))
  | .gtr => some (none, .bool (decide (a > b)))
  | .geq => some (none, .bool (decide (a ≥ b)))
  | _ => none
def strF (op : BinOp) (a b : ByteArray) : Option (Option Bool × Value) :=
  match op with
  | .add => some (some (decide (a.size + b.size ≤ 9223372036854775807)), .string (a ++ b))
  | .eql => some (none, .bool (a.toList == b.toList))
  | .neq => some (none, .bool (!(a.toList == b.toList)))
  | .lss => some (none, .bool (Op.bytesLess a.toList b.toList))
  | .leq => some (none, .bool (Op.bytesLess a.toList b.toList || a.toList == b.toList))
  | .gtr => some (none, .bool (!(Op.bytesLess a.toList b.toList || a.toList == b.toList)))
  | .geq => some (none, .bool (!(Op.bytesLess a.toList b.toList)))
  | _ => none
inductive Kd where
  | i | b | s
def kd (P : Program) (t : TypeId) : Option Kd :=
  match P.underlying t with
  | some (.int _) => some .i
  | some .bool => some .b
  | some .string => some .s
  | _ => none
def kds (P : Program) : List Field → Nat → Option (List Kd)
  | [], _ => some []
  | f :: fs, n => if f.offset = n ∧ f.name ≠ "_" then (match kd P f.type, kds P fs (n + 1) with
    | some k, some r => some (k :: r)
    | _, _ => none) else none
def kindsT (P : Program) (t : TypeId) : Option (List Kd) :=
  match P.underlying t with
  | some (.struct fs) => if P.stoodInHeld t = false ∧ P.eqGuardType P.depth t = false then kds P fs.toList 0 else none
  | _ => none
def eq1 : Kd → AV → AV → Option Bool
  | .i, .lit (.int k a), .lit (.int k' b) => if k = k' then some (a == b) else none
  | .b, .lit (.bool a), .lit (.bool b) => some (a == b)
  | .s, .lit (.string a), .lit (.string b) => some (a == b)
  | _, _, _ => none
def eqK : List Kd → List AV → List AV → Option Bool
  | [], [], [] => some true
  | k :: ks, x :: xs, y :: ys => match eq1 k x y, eqK ks xs ys with
    | some a, some r => some (a && r)
    | _, _ => none
  | _, _, _ => none
def isBoolT (P : Program) (t : TypeId) : Bool := match P.underlying t with | some .bool => true | _ => false
def eqB (op : BinOp) (b : Bool) : Option Value :=
  match op with
  | .eql => some (.bool b)
  | .neq => some (.bool (!b))
  | _ => none
def binF (P : Program) (op : BinOp) (t : TypeId) (x y : AV) : Res :=
  match x, y with
  | .lit (.int k a), .lit (.int k' b) => if k = k' then (match intF op k a b with
    | some (c, v) => some (c, .lit v, [], [])
    | none => none) else none
  | .lit (.bool a), .lit (.bool b) => if isBoolT P t = true then (match eqB op (a == b) with
    | some v => some (none, .lit v, [], [])
    | none => none) else none
  | .lit (.string a), .lit (.string b) => match strF op a b with
    | some (c, v) => some (c, .lit v, [], [])
    | none => none
  | .agg xs, .agg ys => match kindsT P t with
    | some ks => match eqK ks xs ys with
      | some b => match eqB op b with
        | some v => some (none, .lit v, [], [])
        | none => none
      | none => none
    | none => none
  | _, _ => none

theorem exec_bin_int {P : Program} {o : Oper} {op : BinOp} {t t' : Nat} {x y : Operand} (ho : o.op = .binOp op t x y t') {a : Act} {w : World} {k : IntKind} {m n : Int} (hx : a.eval x = .int k m) (hy : a.eval y = .int k n)
    {c : Option Bool} {v : Value} (h : intF op k m n = some (c, v)) (hc : CondP c) : (execOp a.eval o).run P w = .ok (.value v) w := by
  cases op <;> simp only [intF, Option.some.injEq, Prod.mk.injEq, reduceCtorEq] at h <;> obtain ⟨rfl, rfl⟩ := h <;> simp only [CondP, bne_iff_ne, ne_eq] at hc <;>
    simp [execOp, ho, hx, hy, eqGuard, binOp, Op.intArith, Op.intDiv, Op.intCmp, Op.intBits, andI, orI, xorI, andnI, hc]
theorem exec_bin_str {P : Program} {o : Oper} {op : BinOp} {t t' : Nat} {x y : Operand} (ho : o.op = .binOp op t x y t') {a : Act} {w : World} {m n : ByteArray} (hx : a.eval x = .string m) (hy : a.eval y = .string n)
    {c : Option Bool} {v : Value} (h : strF op m n = some (c, v)) (hc : CondP c) : (execOp a.eval o).run P w = .ok (.value v) w := by
  cases op <;> simp only [strF, Option.some.injEq, Prod.mk.injEq, reduceCtorEq] at h <;> obtain ⟨rfl, rfl⟩ := h
  case add =>
    simp only [CondP, decide_eq_true_eq] at hc
    have : ¬ ((m.size + n.size : Nat) : Int) > IntKind.i64.max := by show ¬ _ > (9223372036854775807 : Int); omega
    simp only [execOp, ho, hx, hy, eqGuard, binOp, Op.stringOp, Sem.run_bind, Sem.run_pure, this, if_false]
    rfl
  all_goals simp [execOp, ho, hx, hy, eqGuard, binOp, Op.stringOp]

theorem run_equal_bool {P : Program} {t : Nat} (h : isBoolT P t = true) (w : World) (a b : Bool) : (Op.equal t (.bool a) (.bool b)).run P w = .ok (a == b) w := by
  have hu : P.underlying t = some .bool := by unfold isBoolT at h; split at h <;> first | assumption | cases h
  have key : ∀ d, (Op.equalIn (d + 1) t (.bool a) (.bool b)).run P w = .ok (a == b) w := fun d => by simp [Op.equalIn, run_underlying hu]
  exact key 9999

theorem eq1_sound {P : Program} {t : Nat} {k : Kd} (hk : kd P t = some k) {x y : AV} {r : Bool} (h : eq1 k x y = some r) {w : World} {ρ : Env} {bx : Nat → Box} {u v : Value} (hx : Rep w ρ bx u x) (hy : Rep w ρ bx v y) (d : Nat) :
    (isAgg t).run P w = .ok false w ∧ (Op.equalIn (d + 1) t u v).run P w = .ok r w := by
  unfold eq1 at h
  split at h
  · split at h
    · rename_i hkk
      subst hkk
      have hun : ∃ kk, P.underlying t = some (.int kk) := by unfold kd at hk; split at hk <;> simp_all
      obtain ⟨kk, hun⟩ := hun
      have e1 := hx.inv_lit
      have e2 := hy.inv_lit
      subst e1; subst e2
      injection h with h
      subst h
      exact ⟨by simp [isAgg, run_underlying hun], by simp [Op.equalIn, run_underlying hun]⟩
    · cases h
  · have hun : P.underlying t = some .bool := by unfold kd at hk; split at hk <;> simp_all
    have e1 := hx.inv_lit
    have e2 := hy.inv_lit
    subst e1; subst e2
    injection h with h
    subst h
    exact ⟨by simp [isAgg, run_underlying hun], by simp [Op.equalIn, run_underlying hun]⟩
  · have hun : P.underlying t = some .string := by unfold kd at hk; split at hk <;> simp_all
    have e1 := hx.inv_lit
    have e2 := hy.inv_lit
    subst e1; subst e2
    injection h with h
    subst h
    exact ⟨by simp [isAgg, run_underlying hun], by simp [Op.equalIn, run_underlying hun]⟩
  · cases h

theorem RepL.at_drop {w : World} {ρ : Env} {bx : Nat → Box} {us : List Value} {n : Nat} {t : AV} {xs : List AV} (h : RepL w ρ bx (us.drop n) (t :: xs)) :
    ∃ u, us[n]? = some u ∧ Rep w ρ bx u t ∧ RepL w ρ bx (us.drop (n + 1)) xs := by
  have hl := h.1
  simp at hl
  have hlt : n < us.length := by omega
  refine ⟨us[n], List.getElem?_eq_getElem hlt, h.2 0 _ _ (by simp [List.getElem?_drop, List.getElem?_eq_getElem hlt]) rfl, by simp; omega, fun i v t h1 h2 => h.2 (i + 1) v t ?_ (by simpa using h2)⟩
  rw [List.getElem?_drop] at h1 ⊢
  rw [← h1]; congr 1; omega

theorem eqFields_sound {P : Program} (d : Nat) (w : World) {ρ : Env} {bx : Nat → Box} (us vs : List Value) : ∀ (fs : List Field) (n : Nat) (ks : List Kd) (xs ys : List AV) (r : Bool), kds P fs n = some ks → eqK ks xs ys = some r →
    RepL w ρ bx (us.drop n) xs → RepL w ρ bx (vs.drop n) ys → (Op.eqFields (d + 1) ⟨us⟩ ⟨vs⟩ fs).run P w = .ok r w
  | [], n, ks, xs, ys, r, hk, he, _, _ => by
    simp only [kds, Option.some.injEq] at hk
    subst hk
    cases xs <;> cases ys <;> simp [eqK] at he
    subst he
    simp [Op.eqFields]
  | f :: fs, n, ks, xs, ys, r, hk, he, hx, hy => by
    simp only [kds] at hk
    split at hk
    · rename_i hf
      obtain ⟨hoff, hname⟩ := hf
      split at hk
      · rename_i k ks' hkd hks'
        simp only [Option.some.injEq] at hk
        subst hk
        cases xs with
        | nil => simp [eqK] at he
        | cons x xs =>
          cases ys with
          | nil => simp [eqK] at he
          | cons y ys =>
            simp only [eqK] at he
            split at he
            · rename_i a r' ha hr'
              injection he with he
              obtain ⟨u, hu, hur, hx'⟩ := hx.at_drop
              obtain ⟨v, hv, hvr, hy'⟩ := hy.at_drop
              obtain ⟨g1, g2⟩ := eq1_sound hkd ha hur hvr d
              have ih := eqFields_sound d w us vs fs (n + 1) ks' _ _ r' hks' hr' hx' hy'
              subst he
              simp only [Op.eqFields, ne_eq, hname, not_false_eq_true, if_true, Sem.run_bind, part, g1, Result.andThen_ok, Bool.false_eq_true, if_false, hoff, List.getElem?_toArray, hu, hv, Sem.run_pure, g2, Sem.run_ite, ih]
              cases a <;> simp
            · cases he
      · cases hk
    · cases hk

theorem run_equal_struct {P : Program} {t : Nat} {ks : List Kd} (hk : kindsT P t = some ks) {xs ys : List AV} {r : Bool} (he : eqK ks xs ys = some r) {w : World} {ρ : Env} {bx : Nat → Box} {us vs : List Value}
    (hx : RepL w ρ bx us xs) (hy : RepL w ρ bx vs ys) : (Op.equal t (.agg ⟨us⟩) (.agg ⟨vs⟩)).run P w = .ok r w ∧ P.eqGuardType P.depth t = false := by
  unfold kindsT at hk
  split at hk
  · rename_i fs hfs
    split at hk
    · rename_i hc
      obtain ⟨h1, h2⟩ := hc
      refine ⟨?_, h2⟩
      have hfo : P.fieldsOf t = fs := by simp [Program.fieldsOf, hfs]
      have key : ∀ d, (Op.equalIn (d + 2) t (.agg ⟨us⟩) (.agg ⟨vs⟩)).run P w = .ok r w := fun d => by
        rw [run_equalIn_struct w (d + 1) t ⟨us⟩ ⟨vs⟩ (by rw [hfo]; exact hfs) h1, hfo]
        exact eqFields_sound d w us vs fs.toList 0 ks xs ys r hk he (by simpa using hx) (by simpa using hy)
      exact key 9998
    · cases hk
  · cases hk

theorem bin_sound {P : Program} {o : Oper} {ev : Operand → AV} {bx : Bxs} {c : Option Bool} {r : AV} {e : List (Nat × Box)} {rd : List Nat} {op : BinOp} {t t' : Nat} {x y : Operand} (ho : o.op = .binOp op t x y t')
    (h : binF P op t (ev x) (ev y) = some (c, r, e, rd)) (hc : CondP c) : LocalOk P o ev bx r e rd := by
  unfold binF at h
  split at h
  · rename_i k a k' b hx hy
    split at h
    · rename_i hkk
      subst hkk
      split at h
      · rename_i c' v hi
        simp only [Option.some.injEq, Prod.mk.injEq] at h
        obtain ⟨rfl, rfl, rfl, rfl⟩ := h
        refine LocalOk.pure fun w ρ bx' a' hag hs hr => ?_
        have h1 := hr x (by rw [ho]; simp [Op.operands])
        have h2 := hr y (by rw [ho]; simp [Op.operands])
        rw [hx] at h1
        rw [hy] at h2
        exact ⟨v, exec_bin_int ho h1.inv_lit h2.inv_lit hi hc, .lit v⟩
      · cases h
    · cases h
  · rename_i a b hx hy
    split at h
    · rename_i hb
      split at h
      · rename_i v hv
        simp only [Option.some.injEq, Prod.mk.injEq] at h
        obtain ⟨rfl, rfl, rfl, rfl⟩ := h
        refine LocalOk.pure fun w ρ bx' a' hag hs hr => ?_
        have h1 := hr x (by rw [ho]; simp [Op.operands])
        have h2 := hr y (by rw [ho]; simp [Op.operands])
        rw [hx] at h1
        rw [hy] at h2
        refine ⟨v, ?_, .lit v⟩
        cases op <;> simp only [eqB, Option.some.injEq, reduceCtorEq] at hv <;> subst hv <;>
          simp [execOp, ho, h1.inv_lit, h2.inv_lit, eqGuard, binOp, run_equal_bool hb]
      · cases h
    · cases h
  · rename_i a b hx hy
    split at h
    · rename_i c' v hi
      simp only [Option.some.injEq, Prod.mk.injEq] at h
      obtain ⟨rfl, rfl, rfl, rfl⟩ := h
      refine LocalOk.pure fun w ρ bx' a' hag hs hr => ?_
      have h1 := hr x (by rw [ho]; simp [Op.operands])
      have h2 := hr y (by rw [ho]; simp [Op.operands])
      rw [hx] at h1
      rw [hy] at h2
      exact ⟨v, exec_bin_str ho h1.inv_lit h2.inv_lit hi hc, .lit v⟩
    · cases h
  · rename_i xs ys hx hy
    split at h
    · rename_i ks hks
      split at h
      · rename_i b hb
        split at h
        · rename_i v hv
          simp only [Option.some.injEq, Prod.mk.injEq] at h
          obtain ⟨rfl, rfl, rfl, rfl⟩ := h
          refine LocalOk.pure fun w ρ bx' a' hag hs hr => ?_
          have h1 := hr x (by rw [ho]; simp [Op.operands])
          have h2 := hr y (by rw [ho]; simp [Op.operands])
          rw [hx] at h1
          rw [hy] at h2
          obtain ⟨us, e1, r1⟩ := h1.inv_agg
          obtain ⟨vs, e2, r2⟩ := h2.inv_agg
          obtain ⟨g1, g2⟩ := run_equal_struct hks hb r1 r2
          refine ⟨v, ?_, .lit v⟩
          cases op <;> simp only [eqB, Option.some.injEq, reduceCtorEq] at hv <;> subst hv <;>
            simp [execOp, ho, e1, e2, eqGuard, binOp, g1, g2]
        · cases h
      · cases h
    · cases h
  · cases h
end Go.Cm
