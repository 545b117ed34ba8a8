/- The abstract machine, third state: make of slices. No condition. -/
import Derived.Test.YtibcoiabdnbdjaaDoorCmr
namespace Go.Cm
open Go.RowKit Go.ChangeMaps
set_option linter.unusedSectionVars false
variable [Sig]

/-! shifts -/
def shiftF (op : BinOp) (x y : AV) : Res :=
  match op, x, y with
  | .shl, .lit (.int k a), .lit (.int _ b) => some (some (decide (0 ≤ b)), .lit (.int k (shlI k a b)), [], [])
  | .shr, .lit (.int k a), .lit (.int _ b) => some (some (decide (0 ≤ b)), .lit (.int k (shrI k a b)), [], [])
  | _, _, _ => none
theorem shift_sound {P : Program} {o : Oper} {ev : Operand → AV} {bx : Bxs} {c : Option Bool} {r : AV} {e : List (Nat × Box)} {rd : List Nat} {op : BinOp} {t t' : Nat} {x y : Operand} (ho : o.op = .binOp op t x y t')
    (h : shiftF op (ev x) (ev y) = some (c, r, e, rd)) (hc : CondP c) : LocalOk P o ev bx r e rd := by
  unfold shiftF at h
  split at h
  · rename_i k a k' b hx hy
    simp only [Option.some.injEq, Prod.mk.injEq] at h
    obtain ⟨rfl, rfl, rfl, rfl⟩ := h
    refine LocalOk.pure fun w ρ bx' ac hag hs hr => ?_
    have r1 := hr x (by rw [ho]; simp [Op.operands])
    have r2 := hr y (by rw [ho]; simp [Op.operands])
    rw [hx] at r1
    rw [hy] at r2
    have hb : 0 ≤ b := of_decide_eq_true hc
    have hb' : ¬ b < 0 := by omega
    refine ⟨_, ?_, .lit _⟩
    simp [execOp, ho, r1.inv_lit, r2.inv_lit, eqGuard, binOp, Op.shift, hb', shlI]
  · rename_i k a k' b hx hy
    simp only [Option.some.injEq, Prod.mk.injEq] at h
    obtain ⟨rfl, rfl, rfl, rfl⟩ := h
    refine LocalOk.pure fun w ρ bx' ac hag hs hr => ?_
    have r1 := hr x (by rw [ho]; simp [Op.operands])
    have r2 := hr y (by rw [ho]; simp [Op.operands])
    rw [hx] at r1
    rw [hy] at r2
    have hb : 0 ≤ b := of_decide_eq_true hc
    have hb' : ¬ b < 0 := by omega
    refine ⟨_, ?_, .lit _⟩
    simp [execOp, ho, r1.inv_lit, r2.inv_lit, eqGuard, binOp, Op.shift, hb', shrI]
  · cases h
theorem zeroIs1_one {v : Value} {t : Tree} (h : zeroIs1 v t = true) : v.oneCell' = true := by
  unfold zeroIs1 at h
  split at h <;> first | rfl | cases h
theorem zeroIsL_one : ∀ {vs : List Value} {ts : List Tree}, zeroIsL vs ts = true → ∀ v, v ∈ vs → v.oneCell' = true
  | [], _, _, v, hv => by simp at hv
  | _ :: _, [], h, _, _ => by cases h
  | u :: vs, t :: ts, h, v, hv => by
    simp only [zeroIsL, Bool.and_eq_true] at h
    rcases List.mem_cons.1 hv with rfl | hv
    · exact zeroIs1_one h.1
    · exact zeroIsL_one h.2 v hv
omit [Sig] in
theorem wrapI {z : Int} (h1 : -9223372036854775808 ≤ z) (h2 : z ≤ 9223372036854775807) : IntKind.i64.wrap z = z := by
  show (let m := z % (2 ^ 64 : Int); if true && m ≥ (2 ^ 63 : Int) then m - (2 ^ 64 : Int) else m) = z
  simp only [Bool.true_and, decide_eq_true_eq]
  split <;> omega
def makeSliceF (P : Program) (t : TypeId) (ln cp : AV) (n0 : Nat) : Res :=
  match slT P t, ln, cp with
  | some e, .lit (.int _ l), .lit (.int _ c) => match tyI P e, zeroOf P e, Sig.ofId e with
    | some (sz, _), some z, some te =>
      match decide (z.cells.size = sz) && (decide (0 < sz) && (decide ((Sig.shp te).length = sz) && (decide (0 < bytesT P e) && zeroIsL z.cells.toList (Sig.enc te (Sig.dft te))))) with
      | true => some (some (decide (0 ≤ l) && (decide (l ≤ c) && decide (c * (bytesT P e : Int) ≤ 140737488355328))), .row n0, [(n0, .row false e ⟨te, List.replicate l.toNat (Sig.dft te)⟩)], [])
      | false => none
    | _, _, _ => none
  | _, _, _ => none
theorem makeSlice_sound {P : Program} {o : Oper} {ev : Operand → AV} {bx : Bxs} {c : Option Bool} {r : AV} {e : List (Nat × Box)} {rd : List Nat} {t n0 : Nat} {x y : Operand} (ho : o.op = .makeSlice t x y)
    (h : makeSliceF P t (ev x) (ev y) n0 = some (c, r, e, rd)) (hc : CondP c) : LocalOk P o ev bx r e rd := by
  unfold makeSliceF at h
  split at h
  · rename_i et k l k' cc het hx hy
    have hu := slT_spec het
    split at h
    · rename_i sz ag z te hty hz hte
      split at h
      · rename_i hcond
        simp only [Bool.and_eq_true, decide_eq_true_eq] at hcond
        obtain ⟨hzs, hpos, hsz, hbp, hzero⟩ := hcond
        simp only [Option.some.injEq, Prod.mk.injEq] at h
        obtain ⟨rfl, rfl, rfl, rfl⟩ := h
        simp only [CondP, Bool.and_eq_true, decide_eq_true_eq] at hc
        obtain ⟨h0, h1, h2⟩ := hc
        obtain ⟨ln, rfl⟩ : ∃ n : Nat, l = n := ⟨l.toNat, by omega⟩
        obtain ⟨cn, rfl⟩ : ∃ n : Nat, cc = n := ⟨cc.toNat, by omega⟩
        have hle : ln ≤ cn := by omega
        obtain ⟨i, hi⟩ : ∃ i, P.info? et = some i := by
          unfold zeroOf at hz
          cases hi : P.info? et with
          | none => rw [hi] at hz; cases hz
          | some i => exact ⟨i, rfl⟩
        have hbt : bytesT P et = i.bytes := by unfold bytesT; rw [hi]
        rw [hbt] at hbp h2
        have h2' : cn * i.bytes ≤ 140737488355328 := by rw [← Int.natCast_mul] at h2; omega
        have hcb : cn ≤ 140737488355328 := Nat.le_trans (Nat.le_mul_of_pos_right _ hbp) h2'
        have hzv : ∀ w, (zeroValue et).run P w = .ok z w := fun w => by
          unfold zeroOf at hz
          rw [hi] at hz
          simp only [Option.bind_some] at hz
          simp [zeroValue, typeInfo, hi, hz]
        refine LocalOk.run fun w ρ bx' a hag hnew hs hr => ?_
        have r1 := hr x (by rw [ho]; simp [Op.operands])
        have r2 := hr y (by rw [ho]; simp [Op.operands])
        rw [hx] at r1
        rw [hy] at r2
        have hnil : bx' n0 = .nil := (hnew n0 _ (List.mem_singleton.2 rfl)).resolve_left (by simp)
        let z0 : Array Value := (Array.range (cn * sz)).map (fun i => (if cn * sz = 0 then #[] else z.cells)[i % (if cn * sz = 0 then #[] else z.cells).size]!)
        have hz0 : z0.size = cn * sz := by simp [z0]
        have hzg : ∀ m v, z0.toList[m]? = some v → z.cells.toList[m % sz]? = some v := fun m v hm => by
          have hlt : m < cn * sz := by
            have := (List.getElem?_eq_some_iff.1 hm).1
            simpa [z0] using this
          have hne : ¬ cn * sz = 0 := by omega
          simp only [z0, hne, if_false, Array.toList_map, Array.toList_range, List.getElem?_map, List.getElem?_range hlt, Option.map_some, Option.some.injEq, hzs] at hm
          have hmm : m % sz < z.cells.size := by rw [hzs]; exact Nat.mod_lt _ hpos
          rw [Array.getElem?_toList, ← hm, getElem!_pos z.cells (m % sz) hmm]
          exact Array.getElem?_eq_getElem hmm
        have hrl := zeroIsL_rep (w := w) (ok := okS ρ bx') hzero
        have hone := zeroIsL_one hzero
        let q : Row := ⟨te, List.replicate ln (Sig.dft te)⟩
        have hqn : q.n = ln := by simp [q, RowOf.n]
        have hqs : q.sz = sz := hsz
        have hqg : ∀ i, q.g i = Sig.enc te (Sig.dft te) := fun i => by
          show Sig.enc te ((List.replicate ln (Sig.dft te)).getD i (Sig.dft te)) = _
          congr 1
          simp only [List.getD, List.getElem?_replicate]
          split <;> rfl
        have hrr : RowRep w (okS ρ bx') (z0.toList.take (ln * sz)) q := ⟨fun v hv => by
            obtain ⟨m, hm⟩ := List.mem_iff_getElem?.1 (List.mem_of_mem_take hv)
            exact hone v (List.mem_of_getElem? (hzg m v hm)), fun i j t v hi' ht hv => by
            rw [hqg] at ht
            rw [hqs, List.getElem?_take] at hv
            split at hv
            · have hj : j < sz := by
                have := (List.getElem?_eq_some_iff.1 ht).1
                rw [← hrl.1, Array.length_toList, hzs] at this
                exact this
              have := hzg _ v hv
              rw [Nat.add_comm, Nat.add_mul_mod_self_right, Nat.mod_eq_of_lt hj] at this
              exact hrl.2 j v t this ht
            · cases hv⟩
        have hown : ownsR (w.alloc (.cells z0 et)) ρ.A et q.sz (.slice (some ⟨w.heap.size, 0, none⟩) ln cn) q.n (z0.toList.take (ln * sz)) := by
          rw [hqn, hqs]
          refine ⟨by rw [List.length_take, Array.length_toList, hz0]; exact Nat.min_eq_left (Nat.mul_le_mul_right _ hle), ?_⟩
          cases cn with
          | zero =>
            have : ln = 0 := by omega
            subst this
            exact .inl ⟨_, rfl, rfl⟩
          | succ m => exact .inr ⟨w.heap.size, m, z0, rfl, hs.base _ (Nat.le_refl _), heap_alloc_new w _, hle, by simp only [maxLen]; omega, hz0, rfl⟩
        obtain ⟨ρ', he2, hs2, hhd⟩ := hs.newRow hnil (full := false) (q := q) ((Below.refl _ _).alloc (Nat.le_refl _) _) hown (fun b hb => by
          cases cn with
          | zero => cases hb
          | succ m => simp only [ownB, Option.some.injEq] at hb; omega) hrr (fun h => by cases h)
        refine ⟨.value (.slice (some ⟨w.heap.size, 0, none⟩) ln cn), .slice (some ⟨w.heap.size, 0, none⟩) ln cn, _, ρ', ?_, .inl rfl, he2, hs2, ?_⟩
        · have w1 : IntKind.i64.wrap (ln : Int) = ln := wrapI (by omega) (by omega)
          have w2 : IntKind.i64.wrap (cn : Int) = cn := wrapI (by omega) (by omega)
          have e1 : ¬ ((cn : Int) < 0) := by omega
          have e2 : ¬ ((i.bytes : Int) * (cn : Int) > 2 ^ 48) := by
            have : (i.bytes * cn : Nat) ≤ 140737488355328 := by rw [Nat.mul_comm]; exact h2'
            have : ((i.bytes * cn : Nat) : Int) ≤ 140737488355328 := by omega
            rw [Int.natCast_mul] at this
            omega
          have e3 : ¬ ((ln : Int) < 0) := by omega
          have e4 : ¬ ((ln : Int) > (cn : Int)) := by omega
          have e6 : ¬ (281474976710656 < (i.bytes : Int) * (cn : Int)) := by
            have : (2 : Int) ^ 48 = 281474976710656 := by decide
            omega
          have e7 : ¬ (cn < ln) := by omega
          have e8 : ¬ (roomBytes < cn * i.bytes) := by simp only [roomBytes]; omega
          have e5 : ¬ (cn * i.bytes > roomBytes) := by simp only [roomBytes]; omega
          by_cases hzero : cn * sz = 0
          · simp [execOp, ho, r1.inv_lit, r2.inv_lit, Instr.makeSlice, Sem.run_bind, run_underlying hu, asInt, asIntOf, typeInfo, hi, w1, w2, e1, e2, e6, e3, e4, e5, e7, e8, askRoom, run_sizeOf_of hty, hzero, newRow, z0]
          · simp [execOp, ho, r1.inv_lit, r2.inv_lit, Instr.makeSlice, Sem.run_bind, run_underlying hu, asInt, asIntOf, typeInfo, hi, w1, w2, e1, e2, e6, e3, e4, e5, e7, e8, askRoom, run_sizeOf_of hty, hzero, hzv, newRow, z0]
        · have := Rep.mkRow (k := n0) (full := false) (e := et) (q := q) (by show setBox _ _ _ n0 = _; rw [bget_setBox, if_pos rfl]) hs2
          rw [hhd] at this
          exact this
      · cases h
    · cases h
  · cases h
/-! copy over a whole row -/
section
variable {w : World} {ρ : Env} {bx : Nat → Box}
/-- an empty row is another empty row -/
theorem SimB.emptyRow (h : SimB w ρ bx) {k : Nat} {full : Bool} {e : Nat} {q q' : Row} (hk : bx k = .row full e q) (hz : q'.sz = q.sz) (h0 : q.n = 0) (h0' : q'.n = 0) :
    Ext w ρ bx w ρ (setBox bx k (.row full e q')) ∧ SimB w ρ (setBox bx k (.row full e q')) := by
  have hbo : ∀ j, j ≠ k → (setBox bx k (.row full e q')) j = bx j := fun j hj => by rw [bget_setBox, if_neg hj]
  have hbk : (setBox bx k (.row full e q')) k = .row full e q' := by rw [bget_setBox, if_pos rfl]
  have hoo : ∀ j, own ρ (setBox bx k (.row full e q')) j = own ρ bx j := fun j => by
    by_cases hj : j = k
    · subst hj; unfold own; rw [hbk, hk]
    · exact own_other (hbo j hj) rfl rfl
  have hsim := h.box k
  rw [hk] at hsim
  obtain ⟨xs, h1, h2, h3, h4⟩ := hsim
  have hext : Ext w ρ bx w ρ (setBox bx k (.row full e q')) := {
    below := Below.refl _ _
    keep := fun _ _ _ => rfl
    mutOld := fun b _ ⟨j, hj⟩ => ⟨j, by rw [← hoo j]; exact hj⟩
    env := fun j hm => ⟨rfl, rfl, by
      by_cases hj : j = k
      · subst hj; rw [hbk]; trivial
      · rw [hbo j hj]; exact hm⟩
    A := rfl }
  refine ⟨hext, h.upd hext (fun j => ?_) (fun j j' b e1 e2 => by rw [hoo] at e1 e2; exact h.inj j j' b e1 e2)⟩
  by_cases hjk : j = k
  · subst hjk
    rw [hbk]
    refine .inr ⟨xs, by rw [h0', hz]; rw [h0] at h1; exact h1, ⟨h2.one, fun i j t v hi => by omega⟩, h3, h4⟩
  · exact .inl ⟨hbo j hjk, fun _ _ => rfl⟩
end
def copyF (P : Program) (t t' : TypeId) (x y : AV) (bx : Bxs) : Res :=
  match slT P t with
  | none => none
  | some e => match tyI P e, Sig.ofId e with
    | some (sz, _), some te => match srcOf P t t' te bx y, x with
      | some (q2, ks), .row k => match bget bx k with
        | .row full e' q =>
          if t = t' ∧ e' = e ∧ k ∉ ks ∧ q2.sz = sz ∧ q.sz = sz ∧ 0 < sz then
            some (some (decide (q.n = q2.n)), .lit (.int .i64 (q2.n : Int)), [(k, .row full e q2)], k :: ks)
          else none
        | _ => none
      | _, _ => none
    | _, _ => none
theorem copy_sound {P : Program} {o : Oper} {ev : Operand → AV} {bx : Bxs} {c : Option Bool} {r : AV} {e : List (Nat × Box)} {rd : List Nat} {t t' : Nat} {x y : Operand} (ho : o.op = .call { callee := .builtin .copy, args := #[x, y], argTypes := #[t, t'] })
    (h : copyF P t t' (ev x) (ev y) bx = some (c, r, e, rd)) (hc : CondP c) : LocalOk P o ev bx r e rd := by
  unfold copyF at h
  split at h
  · cases h
  · rename_i et het
    have hu := slT_spec het
    split at h
    · rename_i sz ag te hty hte
      split at h
      · rename_i q2 ks k hsrc hx
        split at h
        · rename_i full e' q hk
          split at h
          · rename_i hcond
            obtain ⟨rfl, rfl, hkk, hq2, hqs, hpos⟩ := hcond
            simp only [Option.some.injEq, Prod.mk.injEq] at h
            obtain ⟨rfl, rfl, rfl, rfl⟩ := h
            have hn : q.n = q2.n := of_decide_eq_true hc
            obtain ⟨i, d, hi, _, hsz, _⟩ := tyI_spec hty
            refine LocalOk.run fun w ρ bx' a hag hnew hs hr => ?_
            have hxr := hr x (by rw [ho]; simp [Op.operands, Call.operands])
            have hyr := hr y (by rw [ho]; simp [Op.operands, Call.operands])
            rw [hx] at hxr
            have hbk : bx' k = .row full e' q := by rw [hag k (by simp)]; exact hk
            obtain ⟨news, hs2, hrr⟩ := src_sound hu hsrc hq2 hpos hs (fun j hj => hag j (by simp [hj])) hyr
            have hb := hs.box k
            rw [hbk] at hb
            obtain ⟨xs, hown, hrep, _⟩ := hb
            have hv : a.eval x = ρ.hd k := hxr.inv_row.2
            have hnl : news.length = q2.n * sz := hs2.newsLen
            rcases hown.2 with ⟨A, hA, h0⟩ | ⟨g, cap, cur, hA, hF, hg, hcap, hmax, hcs, htk⟩
            · -- nothing
              have h20 : q2.n = 0 := by omega
              obtain ⟨e1, e2⟩ := hs.emptyRow (q' := q2) hbk (by rw [hq2, hqs]) h0 h20
              refine ⟨.value (.int .i64 (q2.n : Int)), .int .i64 (q2.n : Int), w, ρ, ?_, .inl rfl, e1, e2, .lit _⟩
              have hc1 := hs2.len w
              have hc2 := hs2.cells
              rw [h20] at hc1 hc2 ⊢
              have hnews : news = [] := List.eq_nil_of_length_eq_zero (by rw [hnl, h20]; simp)
              rw [hnews] at hc2
              have hl1 : ∀ w' : World, (Builtin.lenOf (.slice A 0 0)).run P w' = .ok 0 w' := fun _ => by simp [Builtin.lenOf]
              cases A with
              | none => simp [execOp, ho, resolve, invoke, builtin, hv, hA, Builtin.copy_, run_underlying hu, hl1, sizeOf, typeInfo, hi, hsz, hc1, hc2, storeCells, goInt]
              | some A => simp [execOp, ho, resolve, invoke, builtin, hv, hA, Builtin.copy_, run_underlying hu, hl1, sizeOf, typeInfo, hi, hsz, hc1, hc2, storeCells, goInt]
            · have hcl : cur.toList.length = (cap + 1) * sz := by rw [Array.length_toList, hcs, hqs]
              have hle : q2.n * sz ≤ (cap + 1) * sz := Nat.mul_le_mul_right _ (by omega)
              have hnle : news.length ≤ cur.toList.length := by rw [hnl, hcl]; exact hle
              obtain ⟨e1, e2⟩ := hs.setRow (q' := q2) (cur := cur.toList) (cur' := news ++ cur.toList.drop news.length) hbk hn.symm (by rw [hq2, hqs]) hA (by simpa using hg) (by rw [List.length_append, List.length_drop]; omega) (by
                rw [hn, hqs, ← hnl, List.take_left]; exact hrr)
              refine ⟨.value (.int .i64 (q2.n : Int)), .int .i64 (q2.n : Int), _, ρ, ?_, .inl rfl, e1, e2, .lit _⟩
              have hc1 := hs2.len w
              have hc2 := hs2.cells
              have hst := run_storeCells_at (P := P) g 0 e' news 0 cur w hg (by simp only [Nat.zero_add]; rw [hnl, hcs, hqs]; exact hle) hs2.one
              simp only [Nat.add_zero, Nat.zero_add, List.take_zero, List.nil_append] at hst
              have hl1 : ∀ w' : World, (Builtin.lenOf (.slice (some ⟨g, 0, none⟩) q.n (cap + 1))).run P w' = .ok q.n w' := fun _ => by simp [Builtin.lenOf]
              rw [hn] at hl1 hA
              simp [execOp, ho, resolve, invoke, builtin, hv, hA, Builtin.copy_, run_underlying hu, hl1, sizeOf, typeInfo, hi, hsz, hc1, hc2, hst, goInt]
          · cases h
        · cases h
      · cases h
    · cases h
/-! a range over a string -/
def rangeF (P : Program) (t : TypeId) (x : AV) (n0 : Nat) : Res := match x, isStringT P t with
  | .lit (.string s), true => some (none, .ptr n0 0, [(n0, .iter s 0)], [])
  | _, _ => none
theorem range_sound {P : Program} {o : Oper} {ev : Operand → AV} {bx : Bxs} {c : Option Bool} {r : AV} {e : List (Nat × Box)} {rd : List Nat} {t n : Nat} {x : Operand} (ho : o.op = .range t x)
    (h : rangeF P t (ev x) n = some (c, r, e, rd)) : LocalOk P o ev bx r e rd := by
  unfold rangeF at h
  split at h
  · rename_i s hx ht
    simp only [Option.some.injEq, Prod.mk.injEq] at h
    obtain ⟨_, rfl, rfl, rfl⟩ := h
    have hu : P.underlying t = some .string := by unfold isStringT at ht; split at ht <;> first | assumption | cases ht
    refine LocalOk.run fun w ρ bx' a hag hnew hs hr => ?_
    have h1 := hr x (by rw [ho]; simp [Op.operands])
    rw [hx] at h1
    have hv := h1.inv_lit
    have hk : bx' n = .nil := (hnew n (.iter s 0) (by simp)).resolve_left (by simp)
    obtain ⟨ρ', hβ, he, hs'⟩ := hs.pushM hk (.stringIter s 0) (b := .iter s 0) rfl (fun w' ρ' bx' hh => hh)
    refine ⟨_, .pointer (some ⟨w.heap.size, 0, none⟩), _, ρ', ?_, .inl rfl, he, hs', .ptr n 0 _ (by show (setBox _ _ _ _).made; rw [bget_setBox, if_pos rfl]; trivial) (by rw [hβ])⟩
    have : (Instr.range t (.string s)).run P w = .ok (.pointer (some ⟨w.heap.size, 0, none⟩)) (w.alloc (.stringIter s 0)) := by
      simp only [Instr.range, Sem.run_bind, run_underlying hu w, Result.andThen_ok, Sem.run_pure]
      rfl
    simp [execOp, ho, hv, this]
  · cases h
def runeAt (s : ByteArray) (p : Nat) : Int := ((Utf8.decode s p).1 : Int)
def runeW (s : ByteArray) (p : Nat) : Nat := (Utf8.decode s p).2
theorem SimB.writeO {w : World} {ρ : Env} {bx : Nat → Box} (h : SimB w ρ bx) {k : Nat} {b0 b : Box} (hk : bx k = b0) (hm0 : isMapB b0 = true) (hm : isMapB b = true) {o0 ob : Obj} (he : w.heap[ρ.β k]? = some o0)
    (hb : Ext w ρ bx (setBlock w (ρ.β k) ob) ρ (setBox bx k b) → SimBox (setBlock w (ρ.β k) ob) ρ (setBox bx k b) k b) :
    Ext w ρ bx (setBlock w (ρ.β k) ob) ρ (setBox bx k b) ∧ SimB (setBlock w (ρ.β k) ob) ρ (setBox bx k b) := by
  have other : ∀ c, c ≠ ρ.β k → (setBlock w (ρ.β k) ob).heap[c]? = w.heap[c]? := fun c hc => by
    show (w.heap.setIfInBounds (ρ.β k) ob)[c]? = _
    rw [Array.getElem?_setIfInBounds, if_neg (Ne.symm hc)]
  have hbo : ∀ j, j ≠ k → (setBox bx k b) j = bx j := fun j hj => by rw [bget_setBox, if_neg hj]
  have hbk : (setBox bx k b) k = b := by rw [bget_setBox, if_pos rfl]
  have hko : own ρ bx k = some (ρ.β k) := own_mapB hm0 hk
  have hoo : ∀ j, own ρ (setBox bx k b) j = own ρ bx j := fun j => by
    by_cases hj : j = k
    · subst hj; rw [hko, own_mapB hm hbk]
    · exact own_other (hbo j hj) rfl rfl
  have hext : Ext w ρ bx (setBlock w (ρ.β k) ob) ρ (setBox bx k b) := {
    below := ⟨rfl, rfl, rfl, by simp [setBlock], fun b hb => absurd hb (Nat.not_lt_zero _)⟩
    keep := fun c hc hmu => other c (fun e => hmu ⟨k, by rw [hko, e]⟩)
    mutOld := fun c hc ⟨j, hj⟩ => ⟨j, by rw [← hoo j]; exact hj⟩
    env := fun j hmj => ⟨rfl, rfl, by
      by_cases hj : j = k
      · subst hj; rw [hbk]; cases b <;> first | trivial | cases hm
      · rw [hbo j hj]; exact hmj⟩
    A := rfl }
  refine ⟨hext, h.upd hext (fun j => ?_) (fun j j' c e1 e2 => ?_)⟩
  · by_cases hjk : j = k
    · subst hjk
      rw [hbk]
      exact .inr (hb hext)
    · exact .inl ⟨hbo j hjk, fun c hc => other c (fun e => hjk (h.inj j k c hc (by rw [hko, e])))⟩
  · rw [hoo] at e1 e2; exact h.inj j j' c e1 e2
/-- the next rune -/
theorem next_some {P : Program} {o : Oper} {ev : Operand → AV} {bx : Bxs} {x : Operand} {k p : Nat} {s : ByteArray} (ho : o.op = .next x true) (hx : ev x = .ptr k 0) (hb : bget bx k = .iter s p) (hp : p < s.size) :
    LocalOk P o ev bx (.tup [.lit (.bool true), .lit (.int .i64 (p : Int)), .lit (.int .i32 (runeAt s p))]) [(k, .iter s (p + runeW s p))] [k] := by
  refine LocalOk.run fun w ρ bx' a hag hnew hs hr => ?_
  have h1 := hr x (by rw [ho]; simp [Op.operands])
  rw [hx] at h1
  have hv := h1.inv_ptr.2
  have hbk : bx' k = .iter s p := (hag k (by simp)).trans hb
  have hsb := hs.box k
  rw [hbk] at hsb
  have hh : w.heap[ρ.β k]? = some (.stringIter s p) := hsb
  obtain ⟨he, hs'⟩ := hs.writeO hbk rfl rfl (b := .iter s (p + runeW s p)) (ob := .stringIter s (p + runeW s p)) hh (fun _ => by
    show (w.heap.setIfInBounds (ρ.β k) _)[ρ.β k]? = _
    have hlt := (Array.getElem?_eq_some_iff.1 hh).1
    simp [hlt])
  refine ⟨_, .tuple #[.bool true, .int .i64 (p : Int), .int .i32 (runeAt s p)], _, ρ, ?_, .inl rfl, he, hs', ?_⟩
  · have hg : (getObj (ρ.β k)).run P w = .ok (.stringIter s p) w := by simp [getObj, Sem.run, hh]
    have hst : (setObj (ρ.β k) (.stringIter s (p + runeW s p))).run P w = .ok () (setBlock w (ρ.β k) (.stringIter s (p + runeW s p))) := by simp [setObj, Sem.run, hh, setBlock]
    have : (Instr.next (.pointer (some ⟨ρ.β k, 0, none⟩)) true o.type).run P w = .ok (.tuple #[.bool true, .int .i64 (p : Int), .int .i32 (runeAt s p)]) (setBlock w (ρ.β k) (.stringIter s (p + runeW s p))) := by
      simp only [Instr.next, Sem.run_bind, hg, Result.andThen_ok, hp, if_true]
      show ((setObj (ρ.β k) (.stringIter s (p + runeW s p))).run P w).andThen _ = _
      rw [hst]
      rfl
    simp [execOp, ho, hv, this]
  · refine .tup _ _ rfl fun i v t h1 h2 => ?_
    match i, h1, h2 with
    | 0, h1, h2 => simp at h1 h2; subst h1; subst h2; exact .lit _
    | 1, h1, h2 => simp at h1 h2; subst h1; subst h2; exact .lit _
    | 2, h1, h2 => simp at h1 h2; subst h1; subst h2; exact .lit _
    | i + 3, h1, _ => simp at h1
theorem next_none {P : Program} {o : Oper} {ev : Operand → AV} {bx : Bxs} {x : Operand} {k p : Nat} {s : ByteArray} (ho : o.op = .next x true) (hx : ev x = .ptr k 0) (hb : bget bx k = .iter s p) (hp : ¬ p < s.size) :
    LocalOk P o ev bx (.tup [.lit (.bool false)]) [] [k] := by
  refine LocalOk.pure fun w ρ bx' a hag hs hr => ?_
  have h1 := hr x (by rw [ho]; simp [Op.operands])
  rw [hx] at h1
  have hv := h1.inv_ptr.2
  have hbk : bx' k = .iter s p := (hag k (by simp)).trans hb
  have hsb := hs.box k
  rw [hbk] at hsb
  have hh : w.heap[ρ.β k]? = some (.stringIter s p) := hsb
  refine ⟨.tuple #[.bool false], ?_, ?_⟩
  · have hg : (getObj (ρ.β k)).run P w = .ok (.stringIter s p) w := by simp [getObj, Sem.run, hh]
    have : (Instr.next (.pointer (some ⟨ρ.β k, 0, none⟩)) true o.type).run P w = .ok (.tuple #[.bool false]) w := by
      simp only [Instr.next, Sem.run_bind, hg, Result.andThen_ok, hp, if_false]
      rfl
    simp [execOp, ho, hv, this]
  · refine .tup _ _ rfl fun i v t h1 h2 => ?_
    match i, h1, h2 with
    | 0, h1, h2 => simp at h1 h2; subst h1; subst h2; exact .lit _
    | i + 1, h1, _ => simp at h1
end Go.Cm
