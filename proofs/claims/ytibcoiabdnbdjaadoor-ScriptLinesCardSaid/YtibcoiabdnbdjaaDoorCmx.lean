/- The abstract machine, third state: builders: a variable whose first cell is nil or leads to itself; bytes and strings. No condition. -/
import Derived.Test.YtibcoiabdnbdjaaDoorCmw
import Derived.Lib.AppendStr
import Derived.Lib.UnsafeStr
import Derived.Laws.BytesArg
namespace Go.Cm
open Go.RowKit
set_option linter.unusedSectionVars false
variable [Sig]
theorem RepL.head {w : World} {ρ : Env} {bx : Nat → Box} {vs : List Value} {a : AV} {as : List AV} (h : RepL w ρ bx vs (a :: as)) : ∃ v us, vs = v :: us ∧ Rep w ρ bx v a ∧ RepL w ρ bx us as := by
  cases vs with
  | nil => have := h.1; simp at this
  | cons v us => exact ⟨v, us, rfl, h.2 0 v a rfl rfl, by have := h.1; simpa using this, fun i v t h1 h2 => h.2 (i + 1) v t (by simpa using h1) (by simpa using h2)⟩
theorem RepL.cons {w : World} {ρ : Env} {bx : Nat → Box} {v : Value} {vs : List Value} {a : AV} {as : List AV} (h0 : Rep w ρ bx v a) (h : RepL w ρ bx vs as) : RepL w ρ bx (v :: vs) (a :: as) :=
  ⟨by simp [h.1], fun i v' t' h1 h2 => by
    match i, h1, h2 with
    | 0, h1, h2 => simp at h1 h2; subst h1; subst h2; exact h0
    | i + 1, h1, h2 => exact h.2 i v' t' (by simpa using h1) (by simpa using h2)⟩
theorem own_setVar {ρ : Env} {X : Nat → Box} {k : Nat} {ty : TypeId} {cs cs' : List AV} (j : Nat) : own ρ (setBox X k (.var ty cs')) j = own ρ (setBox X k (.var ty cs)) j := by
  unfold own
  rw [bget_setBox, bget_setBox]
  by_cases h : j = k
  · rw [if_pos h, if_pos h]
  · rw [if_neg h, if_neg h]
/-- a variable's cells are seen from farther off -/
theorem weaken {w : World} {ρ : Env} {X : Nat → Box} {k : Nat} {ty : TypeId} {cs cs' : List AV} (hs : SimB w ρ (setBox X k (.var ty cs)))
    (hr : ∀ vs, w.heap[ρ.β k]? = some (.cells ⟨vs⟩ ty (0, 0)) → RepL w ρ (setBox X k (.var ty cs')) vs cs → RepL w ρ (setBox X k (.var ty cs')) vs cs') : Ext w ρ (setBox X k (.var ty cs)) w ρ (setBox X k (.var ty cs')) ∧ SimB w ρ (setBox X k (.var ty cs')) := by
  have hext : Ext w ρ (setBox X k (.var ty cs)) w ρ (setBox X k (.var ty cs')) := {
    below := Below.refl _ _
    keep := fun _ _ _ => rfl
    mutOld := fun b _ ⟨j, hj⟩ => ⟨j, by rw [own_setVar (cs := cs)] at hj; exact hj⟩
    env := fun j hm => ⟨rfl, rfl, by
      rw [bget_setBox] at hm ⊢
      by_cases h : j = k
      · rw [if_pos h]; trivial
      · rw [if_neg h] at hm ⊢; exact hm⟩
    A := rfl }
  refine ⟨hext, hs.upd hext (fun j => ?_) fun j j' b h1 h2 => hs.inj j j' b (by rw [own_setVar (cs := cs)] at h1; exact h1) (by rw [own_setVar (cs := cs)] at h2; exact h2)⟩
  by_cases h : j = k
  · subst h
    right
    have hb := hs.box j
    rw [bget_setBox, if_pos rfl] at hb
    obtain ⟨vs, h1, h2⟩ := hb
    rw [bget_setBox, if_pos rfl]
    exact ⟨vs, h1, hr vs h1 (h2.ext hext)⟩
  · left
    exact ⟨by rw [bget_setBox, bget_setBox, if_neg h, if_neg h], fun _ _ => rfl⟩
def bldZ : Value → Bool
  | .agg ⟨[.pointer none, .slice none 0 0]⟩ => true
  | _ => false
theorem bldZ_spec {z : Value} (h : bldZ z = true) : z = .agg ⟨[.pointer none, .slice none 0 0]⟩ := by
  unfold bldZ at h
  split at h
  · rfl
  · cases h
def bldTail : List AV → Option Nat
  | [.lit (.pointer none), .row m] => some m
  | _ => none
theorem bldTail_spec {as : List AV} {m : Nat} (h : bldTail as = some m) : as = [.lit (.pointer none), .row m] := by
  unfold bldTail at h
  split at h
  · injection h with h; rw [h]
  · cases h
/-- a new builder -/
def allocB (P : Program) (t : TypeId) (n0 : Nat) : Res :=
  match zeroOf P t with
  | some z => if bldZ z = true ∧ (ofV z).fit = true then (match bldTail (rowsE P (slE P 8 t) (cellsA (ofV z)) (n0 + 1)).1 with
    | some m => some (none, .ptr n0 0, (rowsE P (slE P 8 t) (cellsA (ofV z)) (n0 + 1)).2 ++ [(n0, .var t [.selfn n0, .rowz m])], [])
    | none => none) else none
  | none => none
def allocF3 (P : Program) (t : TypeId) (n0 : Nat) : Res := match Sig.bld t with
  | true => allocB P t n0
  | false => allocF2 P t n0
theorem allocB_sound {P : Program} {o : Oper} {ev : Operand → AV} {bx : Bxs} {c : Option Bool} {r : AV} {e : List (Nat × Box)} {rd : List Nat} {t n : Nat} (ho : o.op = .alloc t)
    (h : allocB P t n = some (c, r, e, rd)) : LocalOk P o ev bx r e rd := by
  unfold allocB at h
  split at h
  · rename_i z hz
    split at h
    · rename_i hf
      obtain ⟨hbz, hf⟩ := hf
      split at h
      · rename_i m hcs
        have hcs := bldTail_spec hcs
        simp only [Option.some.injEq, Prod.mk.injEq] at h
        obtain ⟨_, rfl, rfl, rfl⟩ := h
        refine LocalOk.run fun w ρ bx' a hag hnew hs hr => ?_
        obtain ⟨ρ', k1, k2, k3⟩ := box2_run (P := P) (t := t) (n0 := n) hf hs (Rep_ofV z) (fun k b hb => by
          rcases List.mem_append.1 hb with hb | hb
          · exact (hnew k b (List.mem_append_left _ hb)).resolve_left (by simp)
          · simp only [List.mem_singleton, Prod.mk.injEq] at hb
            obtain ⟨rfl, rfl⟩ := hb
            exact (hnew k _ (List.mem_append_right _ (List.mem_singleton.2 rfl))).resolve_left (by simp))
        rw [hcs, appE_append] at k1 k2 k3
        have hβ : ρ'.β n = w.heap.size := by
          have := k3.inv_ptr.2
          simp only [Value.pointer.injEq, Option.some.injEq, Addr.mk.injEq] at this
          exact this.1.symm
        have hw := weaken (cs' := [.selfn n, .rowz m]) k2 (fun vs hvs hv => by
          rw [hβ, heap_alloc_new, bldZ_spec hbz] at hvs
          have hvs : (⟨[.pointer none, .slice none 0 0]⟩ : Array Value) = ⟨vs⟩ := by
            simp only [Option.some.injEq, Obj.cells.injEq] at hvs
            exact hvs.1
          have hvs : [.pointer none, .slice none 0 0] = vs := congrArg Array.toList hvs
          subst hvs
          have h1 := hv.2 1 _ _ rfl rfl
          refine RepL.cons (.selfn n _ ?_ (.inl rfl)) (RepL.cons (h1.mkRowz (.inl rfl)) ⟨rfl, fun i v t h1 => by simp at h1⟩)
          rw [bget_setBox, if_pos rfl]; trivial)
        refine ⟨.value (.pointer (some ⟨w.heap.size, 0, none⟩)), .pointer (some ⟨w.heap.size, 0, none⟩), w.alloc (.cells z.cells t), ρ', ?_, .inl rfl, ?_, ?_, ?_⟩
        · unfold zeroOf at hz
          cases hi : P.info? t with
          | none => rw [hi] at hz; cases hz
          | some i =>
            rw [hi] at hz
            simp only [Option.bind_some] at hz
            simp [execOp, ho, Instr.alloc, zeroValue, typeInfo, hi, hz, newVar, newRow]
        · rw [appE_append]; exact k1.trans hw.1
        · rw [appE_append]; exact hw.2
        · rw [appE_append]; exact k3.ext hw.1
      · cases h
    · cases h
  · cases h
theorem alloc3_sound {P : Program} {o : Oper} {ev : Operand → AV} {bx : Bxs} {c : Option Bool} {r : AV} {e : List (Nat × Box)} {rd : List Nat} {t n : Nat} (ho : o.op = .alloc t)
    (h : allocF3 P t n = some (c, r, e, rd)) : LocalOk P o ev bx r e rd := by
  unfold allocF3 at h
  split at h
  · exact allocB_sound ho h
  · exact alloc2_sound ho h

/-- operands seen from farther off -/
theorem LocalOk.mono {P : Program} {o : Oper} {ev ev' : Operand → AV} {bx : Bxs} {r : AV} {e : List (Nat × Box)} {rd : List Nat} (hm : ∀ w ρ bx' v x, Rep w ρ bx' v (ev x) → Rep w ρ bx' v (ev' x)) (h : LocalOk P o ev' bx r e rd) : LocalOk P o ev bx r e rd :=
  fun w ρ bx' a K Q hag hnew hs hr hK => h w ρ bx' a K Q hag hnew hs (fun x hx => hm _ _ _ _ _ (hr x hx)) hK
def unz : AV → AV
  | .rowz k => .row k
  | a => a
theorem unz_rep {w : World} {ρ : Env} {bx : Nat → Box} {v : Value} {a : AV} (h : Rep w ρ bx v a) : Rep w ρ bx v (unz a) := by
  unfold unz
  split
  · exact h.inv_rowz.2
  · exact h

/-! unsafe.SliceData, unsafe.String -/
def sdF : AV → Res
  | .rowz k => some (none, .sd k, [], [])
  | _ => none
theorem sd_sound {P : Program} {o : Oper} {ev : Operand → AV} {bx : Bxs} {c : Option Bool} {r : AV} {e : List (Nat × Box)} {rd : List Nat} {t : Nat} {x : Operand} (ho : o.op = .call { callee := .builtin .unsafeSliceData, args := #[x], argTypes := #[t] })
    (h : sdF (ev x) = some (c, r, e, rd)) : LocalOk P o ev bx r e rd := by
  unfold sdF at h
  split at h
  · rename_i k hx
    simp only [Option.some.injEq, Prod.mk.injEq] at h
    obtain ⟨_, rfl, rfl, rfl⟩ := h
    refine LocalOk.pure fun w ρ bx' a hag hs hr => ?_
    have hxr := hr x (by rw [ho]; simp [Op.operands, Call.operands])
    rw [hx] at hxr
    obtain ⟨hz, hrow⟩ := hxr.inv_rowz
    obtain ⟨hm, hv⟩ := hrow.inv_row
    rcases hz with hz | ⟨ad, n, cap, hz⟩
    · refine ⟨.pointer none, ?_, .sd k _ hm ⟨none, 0, 0, none, by rw [← hv, hz], rfl, fun h => absurd rfl h⟩⟩
      simp [execOp, ho, resolve, invoke, builtin, hz, Lib.run_unsafeSliceData_nil]
    · refine ⟨.pointer (some ad), ?_, .sd k _ hm ⟨some ad, n, cap + 1, some ad, by rw [← hv, hz], rfl, fun _ => rfl⟩⟩
      simp [execOp, ho, resolve, invoke, builtin, hz, Lib.run_unsafeSliceData_row]
  · cases h
/-- an own row is lost -/
theorem SimB.lose {w : World} {ρ : Env} {bx : Nat → Box} (h : SimB w ρ bx) {k : Nat} {full : Bool} {e : Nat} {q : Row} (hk : bx k = .row full e q) {w' : World} (hb : Below 0 w w')
    (hkeep : ∀ b, b < w.heap.size → ownB (ρ.hd k) ≠ some b → w'.heap[b]? = w.heap[b]?) : Ext w ρ bx w' ρ (setBox bx k .gone) ∧ SimB w' ρ (setBox bx k .gone) := by
  have hbo : ∀ j, j ≠ k → setBox bx k .gone j = bx j := fun j hj => by rw [bget_setBox, if_neg hj]
  have hbk : setBox bx k .gone k = .gone := by rw [bget_setBox, if_pos rfl]
  have hoo : ∀ j, j ≠ k → own ρ (setBox bx k .gone) j = own ρ bx j := fun j hj => own_other (hbo j hj) rfl rfl
  have hok : own ρ (setBox bx k .gone) k = none := by unfold own; rw [hbk]
  have hko : own ρ bx k = ownB (ρ.hd k) := by unfold own; rw [hk]
  have hext : Ext w ρ bx w' ρ (setBox bx k .gone) := {
    below := hb
    keep := fun b hlt hm => hkeep b hlt (fun e => hm ⟨k, by rw [hko, e]⟩)
    mutOld := fun b hlt ⟨j, hj⟩ => by
      by_cases h1 : j = k
      · subst h1; rw [hok] at hj; cases hj
      · rw [hoo j h1] at hj; exact ⟨j, hj⟩
    env := fun j hm => by
      refine ⟨rfl, rfl, ?_⟩
      by_cases h1 : j = k
      · subst h1; rw [hbk]; trivial
      · rw [hbo j h1]; exact hm
    A := rfl }
  refine ⟨hext, h.upd hext (fun j => ?_) fun j j' b e1 e2 => ?_⟩
  · by_cases h1 : j = k
    · subst h1; rw [hbk]; exact .inr trivial
    · exact .inl ⟨hbo j h1, fun c hc => hkeep c (h.own_lt hc) (fun e => h1 (h.inj j k c hc (by rw [hko, e])))⟩
  · have h1 : j ≠ k := fun e => by subst e; rw [hok] at e1; cases e1
    have h2 : j' ≠ k := fun e => by subst e; rw [hok] at e2; cases e2
    rw [hoo j h1] at e1; rw [hoo j' h2] at e2
    exact h.inj j j' b e1 e2
/-- a row of bytes as a string -/
def zOf (te : Sig.TI) (x : Sig.Car te) : Int := match Sig.enc te x with
  | [.lit (.int _ z)] => z
  | _ => 0
def bytesOf (te : Sig.TI) (l : List (Sig.Car te)) : ByteArray := ⟨(l.map fun x => (zOf te x).toNat.toUInt8).toArray⟩
theorem u8_enc {te : Sig.TI} (h : isU8 (Sig.shp te) = true) (x : Sig.Car te) : Sig.enc te x = [.lit (.int .u8 (zOf te x))] := by
  have hf := Sig.enc_fits te x
  rw [isU8_spec h] at hf
  unfold zOf
  generalize Sig.enc te x = l at hf
  match l, hf with
  | [], hf => simp [fits] at hf
  | [t], hf =>
    simp only [fits, Bool.and_true] at hf
    unfold fit1 at hf
    split at hf
    · rename_i k k' z he
      injection he with he
      have := of_decide_eq_true hf
      subst this; subst he
      rfl
    all_goals first | (cases hf; done) | (rename_i he; cases he)
  | _ :: _ :: _, hf => simp [fits] at hf
theorem run_loadZ {P : Program} (w : World) : ∀ (l : List Int) (a : Addr) (acc : ByteArray), (∀ j z, l[j]? = some z → w.cell? (a.add j) = some (.int .u8 z)) →
    (loadBytes a acc l.length).run P w = .ok ⟨acc.data ++ (l.map fun z => z.toNat.toUInt8).toArray⟩ w
  | [], a, acc, _ => by simp [loadBytes]
  | x :: l, a, acc, h => by
    have h0 : w.cell? a = some (.int .u8 x) := by
      have := h 0 x rfl
      simpa [Addr.add] using this
    have ih := run_loadZ (P := P) w l (a.add 1) (acc.push x.toNat.toUInt8) (fun j y hy => by
      have := h (j + 1) y (by simpa using hy)
      have e : (a.add 1).add j = a.add (j + 1) := by
        unfold Addr.add
        by_cases hj : j = 0
        · subst hj; simp
        · simp [hj]; omega
      rw [e]; exact this)
    simp only [List.length_cons, loadBytes, Sem.run_bind, run_load, h0, Result.andThen]
    rw [ih]
    congr 1
    apply ByteArray.ext
    simp [ByteArray.push]
theorem run_usZ {P : Program} (w : World) (pt it ty e : TypeId) (hp : P.underlying pt = some (.pointer e)) (hc : P.cellsOf e = 1) (g cells : Nat) (hsh : w.shape? g = some (e, cells)) (l : List Int) (h0 : l ≠ []) (hn : l.length ≤ cells) (h63 : l.length ≤ 9223372036854775807)
    (hcell : ∀ j z, l[j]? = some z → w.cell? ((⟨g, 0, none⟩ : Addr).add j) = some (.int .u8 z)) :
    (Builtin.unsafeString_ #[pt, it] ty #[.pointer (some ⟨g, 0, none⟩), .int .i64 l.length]).run P w = .ok (.string ⟨(l.map fun z => z.toNat.toUInt8).toArray⟩) (w.freeze ⟨g, 0, none⟩ l.length) := by
  have hl : l.length ≠ 0 := by simpa using h0
  have hlb := run_loadZ (P := P) w l ⟨g, 0, none⟩ .empty hcell
  have hlies := Lib.liesAt_bytes (P := P) hc (cells / P.cellsOf e) l.length (by rw [hc]; simpa using hn)
  have h63' : ¬ (9223372036854775807 : Int) < (l.length : Int) := by omega
  have hdef : Builtin.unsafeString_ #[pt, it] ty #[.pointer (some ⟨g, 0, none⟩), .int .i64 l.length] =
      (do
        let n ← asInt (.int .i64 l.length)
        if n < 0 then runtimePanic (.error "unsafe.String: len out of range")
        if n > IntKind.i64.max then unsupported (.unsafePointer "String: a length above the largest int")
        if n = 0 then pure (.string .empty)
        else if ← variablesAt ⟨g, 0, none⟩ (← elemOf pt) n.toNat then do
          let s ← loadBytes ⟨g, 0, none⟩ .empty n.toNat
          freeze ⟨g, 0, none⟩ n.toNat
          pure (.string s)
        else unsupported (.unsafePointer "String: not so many bytes at ptr")) := rfl
  rw [hdef]
  have hmax : IntKind.i64.max = 9223372036854775807 := rfl
  have hneg : ¬ (l.length : Int) < 0 := by omega
  simp [asInt, asIntOf, hmax, h63', hneg, hl, variablesAt, hsh, elemOf, run_underlying hp, hlies, hlb]
def ptrTo (P : Program) (pt e : TypeId) : Bool := match P.underlying pt with
  | some (.pointer e') => decide (e' = e)
  | _ => false
theorem ptrTo_spec {P : Program} {pt e : TypeId} (h : ptrTo P pt e = true) : P.underlying pt = some (.pointer e) := by
  unfold ptrTo at h
  split at h
  · rename_i e' he
    rw [he, of_decide_eq_true h]
  · cases h
def usF (P : Program) (pt : TypeId) (x y : AV) (bx : Bxs) : Res :=
  match x, y with
  | .sd k, .lit (.int .i64 z) => (match bget bx k with
    | .row _ e q => (match isU8 (Sig.shp q.e) && ptrTo P pt e && decide (P.cellsOf e = 1) with
      | true => some (some (decide (z = q.n)), .lit (.string (bytesOf q.e q.l)), [(k, .gone)], [k])
      | false => none)
    | _ => none)
  | _, _ => none
theorem us_sound {P : Program} {o : Oper} {ev : Operand → AV} {bx : Bxs} {c : Option Bool} {r : AV} {e : List (Nat × Box)} {rd : List Nat} {pt it : Nat} {x y : Operand} (ho : o.op = .call { callee := .builtin .unsafeString, args := #[x, y], argTypes := #[pt, it] })
    (h : usF P pt (ev x) (ev y) bx = some (c, r, e, rd)) (hc : CondP c) : LocalOk P o ev bx r e rd := by
  unfold usF at h
  split at h
  · rename_i k z hx hy
    split at h
    · rename_i full et q hk
      split at h
      · rename_i hchk
        simp only [Bool.and_eq_true, decide_eq_true_eq] at hchk
        obtain ⟨⟨hu8, hpt⟩, hce⟩ := hchk
        simp only [Option.some.injEq, Prod.mk.injEq] at h
        obtain ⟨rfl, rfl, rfl, rfl⟩ := h
        have hz : z = q.n := of_decide_eq_true hc
        subst hz
        refine LocalOk.run fun w ρ bx' a hag hnew hs hr => ?_
        have hxr := hr x (by rw [ho]; simp [Op.operands, Call.operands])
        have hyr := hr y (by rw [ho]; simp [Op.operands, Call.operands])
        rw [hx] at hxr
        rw [hy] at hyr
        have hyv := hyr.inv_lit
        obtain ⟨hm, A, n, cp, pp, hhd, hv, hpp⟩ := hxr.inv_sd
        have hk' : bx' k = .row full et q := by rw [hag k (by simp), hk]
        have hbk := hs.box k
        rw [hk'] at hbk
        obtain ⟨xs, hown, hrow, hβ, hfull⟩ := hbk
        have hqs : q.sz = 1 := by unfold RowOf.sz; rw [isU8_spec hu8]; rfl
        by_cases hn0 : q.n = 0
        · have hl : q.l = [] := List.eq_nil_of_length_eq_zero hn0
          refine ⟨.value (.string (bytesOf q.e q.l)), .string (bytesOf q.e q.l), w, ρ, ?_, .inl rfl, ?_, ?_, .lit _⟩
          · have hb : bytesOf q.e q.l = .empty := by rw [hl]; rfl
            rw [hb]
            have := Lib.run_unsafeString_none (P := P) w pt it o.type pp
            rw [hn0] at hyv
            simp only [Int.natCast_zero] at hyv
            simp [execOp, ho, resolve, invoke, builtin, hv, hyv, this]
          · exact (hs.lose hk' (Below.refl _ _) (fun _ _ _ => rfl)).1
          · exact (hs.lose hk' (Below.refl _ _) (fun _ _ _ => rfl)).2
        · rcases hown.2 with ⟨_, _, h0⟩ | ⟨g, cap, cur, e1, hF, hg, hcap, hmax, hcs, htk⟩
          · exact absurd h0 hn0
          · have e2 : A = some ⟨g, 0, none⟩ ∧ n = q.n := by
              rw [hhd] at e1
              injection e1 with e1 e2 e3
              exact ⟨e1, e2⟩
            have hp : pp = some ⟨g, 0, none⟩ := by rw [hpp (by rw [e2.2]; exact hn0), e2.1]
            subst hp
            have hzl : (q.l.map (zOf q.e)).length = q.n := by simp [RowOf.n]
            have hcells : ∀ j z, (q.l.map (zOf q.e))[j]? = some z → w.cell? ((⟨g, 0, none⟩ : Addr).add j) = some (.int .u8 z) := fun j z hj => by
              rw [List.getElem?_map] at hj
              obtain ⟨x, hx, rfl⟩ := Option.map_eq_some_iff.1 hj
              have hjl : j < q.n := (List.getElem?_eq_some_iff.1 hx).1
              have hxl : j < xs.length := by rw [hown.1, hqs]; omega
              have hg' : q.g j = [.lit (.int .u8 (zOf q.e x))] := by
                unfold RowOf.g
                rw [List.getD_eq_getElem?_getD, hx, Option.getD_some]
                exact u8_enc hu8 x
              have hrp := hrow.rep j 0 (.lit (.int .u8 (zOf q.e x))) xs[j] hjl (by rw [hg']; rfl) (by rw [hqs, Nat.mul_one, Nat.add_zero]; exact List.getElem?_eq_getElem hxl)
              have hxv : xs[j] = .int .u8 (zOf q.e x) := by
                generalize xs[j] = u at hrp
                cases hrp; rfl
              rw [add_none, Nat.zero_add]
              exact cells_take hg htk (by rw [List.getElem?_eq_getElem hxl, hxv])
            have hrun := run_usZ (P := P) w pt it o.type et (ptrTo_spec hpt) hce g cur.size (by simp [World.shape?, hg]) (q.l.map (zOf q.e)) (by intro h; have := congrArg List.length h; rw [hzl] at this; exact hn0 (by simpa using this)) (by rw [hzl, hcs, hqs]; omega) (by rw [hzl]; simp only [maxLen] at hmax; omega) hcells
            rw [hzl] at hrun
            have hbel : Below 0 w (w.freeze ⟨g, 0, none⟩ q.n) := Lib.below_freeze (Below.refl _ _) (Nat.zero_le _) _
            have hkeep : ∀ b, b < w.heap.size → ownB (ρ.hd k) ≠ some b → (w.freeze ⟨g, 0, none⟩ q.n).heap[b]? = w.heap[b]? := fun b hb hne => by
              have hgb : g ≠ b := fun e => hne (by rw [e1, e]; rfl)
              unfold World.freeze
              rw [if_neg hn0]
              simp only [Array.getElem?_modify]
              rw [if_neg hgb]
            refine ⟨.value (.string (bytesOf q.e q.l)), .string (bytesOf q.e q.l), _, ρ, ?_, .inl rfl, (hs.lose hk' hbel hkeep).1, (hs.lose hk' hbel hkeep).2, .lit _⟩
            have hbe : bytesOf q.e q.l = ⟨((q.l.map (zOf q.e)).map fun z => z.toNat.toUInt8).toArray⟩ := by unfold bytesOf; rw [List.map_map]; rfl
            rw [hbe]
            simp [execOp, ho, resolve, invoke, builtin, hv, hyv, hrun]
      · cases h
    · cases h
  · cases h
/-! bytes as a string, by conversion -/
def bytesSl (P : Program) (src : TypeId) : Bool := match P.underlying src with
  | some (.slice e) => (match P.underlying e with
    | some (.int .u8) => true
    | _ => false)
  | _ => false
theorem bytesSl_spec {P : Program} {src : TypeId} (h : bytesSl P src = true) : ∃ e, P.underlying src = some (.slice e) ∧ P.underlying e = some (.int .u8) := by
  unfold bytesSl at h
  split at h
  · rename_i e he
    split at h
    · rename_i hb
      exact ⟨e, he, hb⟩
    · cases h
  · cases h
theorem foldl_pushZ : ∀ (l : List Int) (s : ByteArray), l.foldl (fun r n => r.push (UInt8.ofNat n.toNat)) s = ⟨s.data ++ (l.map fun z => z.toNat.toUInt8).toArray⟩
  | [], s => by simp
  | x :: l, s => by
    rw [List.foldl_cons, foldl_pushZ l]
    apply ByteArray.ext
    simp [ByteArray.push]
def convBF (P : Program) (src dst : TypeId) (x : AV) (bx : Bxs) : Res := match x with
  | .row k => (match bget bx k with
    | .row _ _ q => (match isU8 (Sig.shp q.e) && isStr P dst && bytesSl P src with
      | true => some (none, .lit (.string (bytesOf q.e q.l)), [], [k])
      | false => none)
    | _ => none)
  | _ => none
theorem convB_sound {P : Program} {o : Oper} {ev : Operand → AV} {bx : Bxs} {c : Option Bool} {r : AV} {e : List (Nat × Box)} {rd : List Nat} {src dst : Nat} {x : Operand} (ho : o.op = .convert src dst x)
    (h : convBF P src dst (ev x) bx = some (c, r, e, rd)) : LocalOk P o ev bx r e rd := by
  unfold convBF at h
  split at h
  · rename_i k hx
    split at h
    · rename_i full et q hk
      split at h
      · rename_i hchk
        simp only [Bool.and_eq_true] at hchk
        obtain ⟨⟨hu8, hst⟩, hbs⟩ := hchk
        obtain ⟨eb, hs1, hs2⟩ := bytesSl_spec hbs
        simp only [Option.some.injEq, Prod.mk.injEq] at h
        obtain ⟨_, rfl, rfl, rfl⟩ := h
        refine LocalOk.pure fun w ρ bx' a hag hs hr => ?_
        have hxr := hr x (by rw [ho]; simp [Op.operands])
        rw [hx] at hxr
        obtain ⟨_, hv⟩ := hxr.inv_row
        have hbk := hs.box k
        rw [hag k (by simp), hk] at hbk
        obtain ⟨xs, hown, hrow, hβ, hfull⟩ := hbk
        have hqs : q.sz = 1 := by unfold RowOf.sz; rw [isU8_spec hu8]; rfl
        refine ⟨.string (bytesOf q.e q.l), ?_, .lit _⟩
        have hxl : xs = (q.l.map (zOf q.e)).map (Value.int .u8) := by
          apply List.ext_getElem?
          intro j
          have hl1 : xs.length = q.l.length := by rw [hown.1, hqs, Nat.mul_one]; rfl
          rw [List.getElem?_map, List.getElem?_map]
          by_cases hj : j < q.l.length
          · have hjx : j < xs.length := by omega
            rw [List.getElem?_eq_getElem hjx, List.getElem?_eq_getElem hj]
            simp only [Option.map_some, Option.some.injEq]
            have hg' : q.g j = [.lit (.int .u8 (zOf q.e q.l[j]))] := by
              unfold RowOf.g
              rw [List.getD_eq_getElem?_getD, List.getElem?_eq_getElem hj, Option.getD_some]
              exact u8_enc hu8 _
            have hrp := hrow.rep j 0 (.lit (.int .u8 (zOf q.e q.l[j]))) xs[j] hj (by rw [hg']; rfl) (by rw [hqs, Nat.mul_one, Nat.add_zero]; exact List.getElem?_eq_getElem hjx)
            generalize xs[j] = u at hrp
            cases hrp; rfl
          · rw [List.getElem?_eq_none (by omega), List.getElem?_eq_none (by omega)]; rfl
        have hbe : bytesOf q.e q.l = (q.l.map (zOf q.e)).foldl (fun r n => r.push (UInt8.ofNat n.toNat)) ByteArray.empty := by
          rw [foldl_pushZ]
          unfold bytesOf
          rw [List.map_map]
          simp [ByteArray.empty, ByteArray.emptyWithCapacity]
          rfl
        have hrun : ∀ A n cp, ρ.hd k = .slice (some A) n cp → (loadCells A n).run P w = .ok xs.toArray w → (convert src dst (.slice (some A) n cp)).run P w = .ok (.string (bytesOf q.e q.l)) w := fun A n cp _ hl => by
          rw [run_convert_bytes_string w src dst eb _ n cp hs1 hs2 (isStr_spec hst), run_bytesToString w A n cp (q.l.map (zOf q.e)) (by rw [← hxl]; exact hl), hbe]
        rcases hown.2 with ⟨A, e1, h0⟩ | ⟨g, cap, cur, e1, hF, hg, hcap, hmax, hcs, htk⟩
        · have hq0 : q.l = [] := List.eq_nil_of_length_eq_zero h0
          cases A with
          | none =>
            have := run_convert_bytes_nil (P := P) (w := w) src eb hs1 hs2 0 0 dst (isStr_spec hst)
            have hb0 : bytesOf q.e q.l = ByteArray.empty := by rw [hq0]; rfl
            rw [hb0]
            simp [execOp, ho, hv, e1, this]
          | some A =>
            have := hrun A 0 0 e1 (by rw [hxl, hq0]; simp [loadCells, loadCellsFrom])
            simp [execOp, ho, hv, e1, this]
        · have hl := run_loadCells_list (P := P) w ⟨g, 0, none⟩ xs (fun j u hu => by rw [add_none, Nat.zero_add]; exact cells_take hg htk hu)
          have hlen : xs.length = q.n := by rw [hown.1, hqs, Nat.mul_one]
          rw [hlen] at hl
          have := hrun ⟨g, 0, none⟩ q.n (cap + 1) e1 hl
          simp [execOp, ho, hv, e1, this]
      · cases h
    · cases h
  · cases h
end Go.Cm
