/- The abstract machine, third state: interface values that hold plain data: making them, type assertions; package variables. No condition. -/
import Derived.Test.YtibcoiabdnbdjaaDoorCms
namespace Go.Cm
open Go.RowKit
set_option linter.unusedSectionVars false
variable [Sig]
def allLit : List AV → Option (List Value)
  | [] => some []
  | .lit v :: ts => match allLit ts with
    | some vs => some (v :: vs)
    | none => none
  | _ => none
def litOf : AV → Option Value
  | .lit v => some v
  | .agg ts => match allLit ts with
    | some vs => some (.agg ⟨vs⟩)
    | none => none
  | _ => none
theorem allLit_spec {w : World} {ρ : Env} {bx : Nat → Box} : ∀ {ts : List AV} {us vs : List Value}, allLit ts = some us → RepL w ρ bx vs ts → vs = us
  | [], us, vs, h, hr => by
    simp only [allLit, Option.some.injEq] at h
    subst h
    exact List.eq_nil_of_length_eq_zero hr.1
  | t :: ts, us, vs, h, hr => by
    cases vs with
    | nil => have := hr.1; simp at this
    | cons v vs =>
      have h0 := hr.2 0 v t rfl rfl
      have hr' : RepL w ρ bx vs ts := ⟨by have := hr.1; simpa using this, fun i v t h1 h2 => hr.2 (i + 1) v t (by simpa using h1) (by simpa using h2)⟩
      unfold allLit at h
      split at h
      · rename_i heq; cases heq
      · rename_i v0 ts' heq
        injection heq with e1 e2
        subst e1; subst e2
        split at h
        · rename_i us' hus
          injection h with h
          subst h
          rw [h0.inv_lit, allLit_spec hus hr']
        · cases h
      · cases h
theorem litOf_spec {w : World} {ρ : Env} {bx : Nat → Box} {t : AV} {u v : Value} (h : litOf t = some u) (hr : Rep w ρ bx v t) : v = u := by
  unfold litOf at h
  split at h
  · injection h with h; subst h; exact hr.inv_lit
  · split at h
    · rename_i us hus
      injection h with h
      subst h
      obtain ⟨vs, rfl, hvs⟩ := hr.inv_agg
      rw [allLit_spec hus hvs]
    · cases h
  · cases h
def notIface (P : Program) (t : TypeId) : Bool := match P.underlying t with
  | some (.interface _) => false
  | some _ => true
  | none => false
def mkIfaceF (P : Program) (t : TypeId) (x : AV) : Res :=
  match notIface P t, litOf x with
  | true, some v => some (none, .lit (.iface t v), [], [])
  | _, _ => none
theorem mkIface_sound {P : Program} {o : Oper} {ev : Operand → AV} {bx : Bxs} {c : Option Bool} {r : AV} {e : List (Nat × Box)} {rd : List Nat} {t : TypeId} {x : Operand} (ho : o.op = .makeInterface t x)
    (h : mkIfaceF P t (ev x) = some (c, r, e, rd)) : LocalOk P o ev bx r e rd := by
  unfold mkIfaceF at h
  split at h
  · rename_i v hn hl
    simp only [Option.some.injEq, Prod.mk.injEq] at h
    obtain ⟨_, rfl, rfl, rfl⟩ := h
    refine LocalOk.pure fun w ρ bx' a hag hs' hr => ?_
    have h1 := litOf_spec hl (hr x (by rw [ho]; simp [Op.operands]))
    refine ⟨.iface t v, ?_, .lit _⟩
    unfold notIface at hn
    split at hn
    · cases hn
    · rename_i u hni hu
      simp only [execOp, ho, h1, Instr.makeInterface, Sem.run_bind, run_underlying hu, Result.andThen_ok]
      cases u <;> first | rfl | exact absurd rfl (hni _)
    · cases hn
  · cases h
def tyAssertF (P : Program) (x : AV) (asr : TypeId) (ok : Bool) : Res :=
  match ok, notIface P asr, zeroOf P asr, x with
  | true, true, some z, .lit (.iface t v) => (match decide (t = asr) with
    | true => some (none, .tup [ofV v, .lit (.bool true)], [], [])
    | false => some (none, .tup [ofV z, .lit (.bool false)], [], []))
  | true, true, some z, .lit .nilIface => some (none, .tup [ofV z, .lit (.bool false)], [], [])
  | _, _, _, _ => none
theorem run_zero {P : Program} {t : TypeId} {z : Value} (h : zeroOf P t = some z) (w : World) : (zeroValue t).run P w = .ok z w := by
  unfold zeroOf at h
  cases hi : P.info? t with
  | none => rw [hi] at h; cases h
  | some i =>
    rw [hi] at h
    have hz : i.zero = some z := h
    simp [zeroValue, typeInfo, hi, hz]
theorem two_rep {w : World} {ρ : Env} {bx : Nat → Box} (v : Value) (b : Bool) : Rep w ρ bx (.tuple #[v, .bool b]) (.tup [ofV v, .lit (.bool b)]) := by
  refine .tup [v, .bool b] _ rfl fun i v' t' h1 h2 => ?_
  match i, h1, h2 with
  | 0, h1, h2 => simp at h1 h2; subst h1; subst h2; exact Rep_ofV _
  | 1, h1, h2 => simp at h1 h2; subst h1; subst h2; exact .lit _
  | i + 2, h1, _ => simp at h1
theorem tyAssert_sound {P : Program} {o : Oper} {ev : Operand → AV} {bx : Bxs} {c : Option Bool} {r : AV} {e : List (Nat × Box)} {rd : List Nat} {xt asr : TypeId} {ok : Bool} {x : Operand} (ho : o.op = .typeAssert x xt asr ok)
    (h : tyAssertF P (ev x) asr ok = some (c, r, e, rd)) : LocalOk P o ev bx r e rd := by
  unfold tyAssertF at h
  split at h
  · rename_i z t v hn hz hx
    have hu : ∃ u, P.underlying asr = some u ∧ ∀ ms, u ≠ .interface ms := by
      unfold notIface at hn
      split at hn
      · cases hn
      · rename_i u hni hu; exact ⟨u, hu, fun ms e => hni ms e⟩
      · cases hn
    obtain ⟨u, hu, hni⟩ := hu
    split at h
    · rename_i ht
      have ht := of_decide_eq_true ht
      subst ht
      simp only [Option.some.injEq, Prod.mk.injEq] at h
      obtain ⟨_, rfl, rfl, rfl⟩ := h
      refine LocalOk.pure fun w ρ bx' a hag hs' hr => ?_
      have h1 := hr x (by rw [ho]; simp [Op.operands])
      rw [hx] at h1
      refine ⟨.tuple #[v, .bool true], ?_, two_rep v true⟩
      simp only [execOp, ho, h1.inv_lit, Instr.typeAssert, Sem.run_bind, run_underlying hu, Result.andThen_ok]
      cases u <;> first | simp | exact absurd rfl (hni _)
    · rename_i ht
      have ht := of_decide_eq_false ht
      simp only [Option.some.injEq, Prod.mk.injEq] at h
      obtain ⟨_, rfl, rfl, rfl⟩ := h
      refine LocalOk.pure fun w ρ bx' a hag hs' hr => ?_
      have h1 := hr x (by rw [ho]; simp [Op.operands])
      rw [hx] at h1
      refine ⟨.tuple #[z, .bool false], ?_, two_rep z false⟩
      simp only [execOp, ho, h1.inv_lit, Instr.typeAssert, Sem.run_bind, run_underlying hu, Result.andThen_ok]
      cases u <;> first | (simp [ht, run_zero hz]; done) | exact absurd rfl (hni _)
  · rename_i z hn hz hx
    have hu : ∃ u, P.underlying asr = some u ∧ ∀ ms, u ≠ .interface ms := by
      unfold notIface at hn
      split at hn
      · cases hn
      · rename_i u hni hu; exact ⟨u, hu, fun ms e => hni ms e⟩
      · cases hn
    obtain ⟨u, hu, hni⟩ := hu
    simp only [Option.some.injEq, Prod.mk.injEq] at h
    obtain ⟨_, rfl, rfl, rfl⟩ := h
    refine LocalOk.pure fun w ρ bx' a hag hs' hr => ?_
    have h1 := hr x (by rw [ho]; simp [Op.operands])
    rw [hx] at h1
    refine ⟨.tuple #[z, .bool false], ?_, two_rep z false⟩
    simp only [execOp, ho, h1.inv_lit, Instr.typeAssert, Sem.run_bind, run_underlying hu, Result.andThen_ok]
    cases u <;> first | (simp [run_zero hz]; done) | exact absurd rfl (hni _)
  · cases h
/-! elements of package variables -/
def globIdxF (P : Program) (t : TypeId) (x : Operand) (i : AV) : Res :=
  match x with
  | .global g => match i with
    | .lit (.int _ z) => match ixT P t with
      | some (some len, n) => match Sig.glob g with
        | some q => match q.sz == n with
          | true => some (some (decide (0 ≤ z) && decide (z < len ∧ z < q.n)), .ep (q.g z.toNat) 0, [], [])
          | false => none
        | none => none
      | _ => none
    | _ => none
  | _ => none
theorem globIdx_sound {P : Program} {o : Oper} {ev : Operand → AV} {bx : Bxs} {c : Option Bool} {r : AV} {e : List (Nat × Box)} {rd : List Nat} {t : Nat} {x i : Operand} (ho : o.op = .indexAddr t x i)
    (h : globIdxF P t x (ev i) = some (c, r, e, rd)) (hc : CondP c) : LocalOk P o ev bx r e rd := by
  unfold globIdxF at h
  split at h
  · rename_i g
    split at h
    · rename_i k z hi
      split at h
      · rename_i len n hn
        obtain ⟨et, ag, hu, ht⟩ := ixT_array hn
        split at h
        · rename_i q hq
          split at h
          · rename_i hchk
            simp only [Option.some.injEq, Prod.mk.injEq] at h
            obtain ⟨rfl, rfl, rfl, rfl⟩ := h
            obtain ⟨h0, h1, h3⟩ := cond2 hc
            have h2 := beq_iff_eq.1 hchk
            subst h2
            refine LocalOk.pure fun w ρ bx' a hag hs hr => ?_
            have hir := hr i (by rw [ho]; simp [Op.operands])
            rw [hi] at hir
            have hiv := hir.inv_lit
            have hxv : a.eval (.global g) = .pointer (some ⟨g, 0, none⟩) := rfl
            obtain ⟨g1, g2, g3, _⟩ := hs.glob g q hq
            have hlt : z.toNat < q.n := by omega
            refine ⟨.pointer (some ⟨g, 0 + z.toNat * q.sz, none⟩), ?_, ?_⟩
            · simp [execOp, ho, hxv, hiv, Instr.indexAt, asIntOf, run_underlying hu, run_sizeOf_of ht, h0, h1, Instr.sureAddr, add_none]
            · have := Rep.ep (w := w) (ρ := ρ) (bx := bx') g (0 + z.toNat * q.sz) (q.g z.toNat) 0 (fun j => match (q.g z.toNat)[j]? with | some (.lit v) => v | _ => undef) (fun j t hj => by
                obtain ⟨v, rfl, hcell⟩ := g3 z.toNat j t hlt hj
                refine ⟨g2, ?_⟩
                rw [hj, Nat.zero_add]
                exact hcell) (fun j t hj => by
                obtain ⟨v, rfl, hcell⟩ := g3 z.toNat j t hlt hj
                rw [hj]
                exact .lit v)
              exact this
          · cases h
        · cases h
      · cases h
    · cases h
  · cases h
end Go.Cm
