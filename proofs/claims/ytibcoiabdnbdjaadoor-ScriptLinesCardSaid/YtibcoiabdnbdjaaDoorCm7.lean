/- The abstract machine, third state, part 7: slice literals, append, slice expressions, closures, fields of values. No condition. -/
import Derived.Test.YtibcoiabdnbdjaaDoorCm6
namespace Go.Cm
open Go.RowKit
set_option linter.unusedSectionVars false
variable [Sig]

def chunk (sz : Nat) : Nat → List Tree → List (List Tree)
  | 0, _ => []
  | n + 1, ts => ts.take sz :: chunk sz n (ts.drop sz)
theorem chunk_len (sz : Nat) : ∀ (n : Nat) (ts : List Tree), (chunk sz n ts).length = n
  | 0, _ => rfl
  | n + 1, ts => by simp [chunk, chunk_len sz n]
theorem chunk_get (sz : Nat) : ∀ (n : Nat) (ts : List Tree) (i : Nat), i < n → (chunk sz n ts)[i]? = some ((ts.drop (i * sz)).take sz)
  | 0, _, _, h => by omega
  | n + 1, ts, 0, _ => by simp [chunk]
  | n + 1, ts, i + 1, h => by
    rw [chunk, List.getElem?_cons_succ, chunk_get sz n _ i (by omega), List.drop_drop, Nat.add_mul, Nat.one_mul, Nat.add_comm]
theorem rep_get {α : Type} (L : List α) : ∀ (n i : Nat), i < n * L.length → (List.replicate n L).flatten[i]? = L[i % L.length]?
  | 0, i, h => by simp at h
  | n + 1, i, h => by
    rw [List.replicate_succ, List.flatten_cons, List.getElem?_append]
    split
    · rename_i hlt; rw [Nat.mod_eq_of_lt hlt]
    · rename_i hge
      rw [Nat.succ_mul] at h
      rw [rep_get L n (i - L.length) (by omega)]
      exact congrArg (fun j => L[j]?) (Nat.mod_eq_sub_mod (by omega)).symm

def slT (P : Program) (t : TypeId) : Option TypeId := match P.underlying t with | some (.slice e) => some e | _ => none
theorem slT_spec {P : Program} {t e : TypeId} (h : slT P t = some e) : P.underlying t = some (.slice e) := by
  unfold slT at h; split at h
  · injection h with h; subst h; assumption
  · cases h

def rowOfChunks (te : Sig.TI) (cs : List (List Tree)) : Row := ⟨te, cs.map (Sig.dec te)⟩
def buildSliceF (P : Program) (t : TypeId) (len : Nat) (qs : List (Nat × AV)) (bx : Bxs) (n0 : Nat) : Res :=
  match slT P t with
  | none => none
  | some e =>
    match tyI P e, zeroOf P e, Sig.ofId e with
    | some (sz, _), some z, some te =>
      match fillA (fun i => some (i * sz, sz)) (List.replicate len (z.cells.toList.map ofV1)).flatten qs with
      | none => none
      | some cs =>
        match tTs bx (List.replicate len (Sig.shp te)).flatten cs with
        | none => none
        | some (ts, ks) =>
          if z.cells.size = sz ∧ len * sz ≤ 16777216 ∧ 0 < sz ∧ cs.length = len * sz ∧ cs.all AV.one = true ∧ nodupB ks = true ∧ (Sig.shp te).length = sz ∧ (chunk sz len ts).all (fits (Sig.shp te)) = true then
            some (none, .row n0, frzE bx ks ++ [(n0, .row true e (rowOfChunks te (chunk sz len ts)))], ks)
          else none
    | _, _, _ => none

theorem rowOfChunks_n (te : Sig.TI) (cs : List (List Tree)) : (rowOfChunks te cs).n = cs.length := by simp [rowOfChunks, RowOf.n]
theorem rowOfChunks_g {te : Sig.TI} {cs : List (List Tree)} (hf : cs.all (fits (Sig.shp te)) = true) {i : Nat} {c : List Tree} (hi : cs[i]? = some c) : (rowOfChunks te cs).g i = c := by
  have h1 : (cs.map (Sig.dec te))[i]? = some (Sig.dec te c) := by rw [List.getElem?_map, hi]; rfl
  show Sig.enc te (((cs.map (Sig.dec te))[i]?).getD (Sig.dft te)) = c
  rw [h1]
  exact Sig.enc_dec _ _ (List.all_eq_true.1 hf c (List.mem_of_getElem? hi))

theorem RowRep.chunk {w : World} {ok : Nat → Prop} {sz len : Nat} {xs : List Value} {ts : List Tree} {te : Sig.TI} (h : RepTL w ok xs ts) (h1 : ∀ v, v ∈ xs → v.oneCell' = true) (hsz : (Sig.shp te).length = sz)
    (hf : (Cm.chunk sz len ts).all (fits (Sig.shp te)) = true) : RowRep w ok xs (rowOfChunks te (Cm.chunk sz len ts)) := by
  refine ⟨h1, fun i j t v hi ht hv => ?_⟩
  rw [rowOfChunks_n, chunk_len] at hi
  rw [rowOfChunks_g hf (chunk_get sz len ts i hi)] at ht
  have hz : (rowOfChunks te (Cm.chunk sz len ts)).sz = sz := hsz
  rw [hz] at hv
  rw [List.getElem?_take] at ht
  split at ht
  · rw [List.getElem?_drop] at ht
    exact h.2 _ v t hv ht
  · cases ht

theorem Rep.mkRow {w : World} {ρ : Env} {bx : Nat → Box} {k : Nat} {full : Bool} {e : Nat} {q : Row} (hk : bx k = .row full e q) (hs : SimB w ρ bx) : Rep w ρ bx (ρ.hd k) (.row k) := by
  refine .row k _ (by rw [hk]; trivial) ?_ rfl
  have hb := hs.box k
  rw [hk] at hb
  obtain ⟨xs, hown, _⟩ := hb
  rcases hown.2 with ⟨a, e1, _⟩ | ⟨g, cap, cur, e1, _⟩
  · exact ⟨_, _, _, e1⟩
  · exact ⟨_, _, _, e1⟩

theorem buildSlice_sound {P : Program} {o : Oper} {ev : Operand → AV} {bx : Bxs} {c : Option Bool} {r : AV} {e : List (Nat × Box)} {rd : List Nat} {t len n0 : Nat} {ps : Array (Nat × Operand)} (ho : o.op = .buildSlice t len ps)
    (h : buildSliceF P t len (ps.toList.map fun p => (p.1, ev p.2)) bx n0 = some (c, r, e, rd)) (hn0 : n0 ∉ rd) : LocalOk P o ev bx r e rd := by
  unfold buildSliceF at h
  split at h
  · cases h
  · rename_i et het
    have hu := slT_spec het
    split at h
    · rename_i sz ag z te hty hz hte
      split at h
      · cases h
      · rename_i cs hcs
        split at h
        · cases h
        · rename_i ts ks hts
          split at h
          · rename_i hcond
            obtain ⟨hzs, hlim, hpos, hcl, hone, hnd, hsz, hfits⟩ := hcond
            simp only [Option.some.injEq, Prod.mk.injEq] at h
            obtain ⟨_, rfl, rfl, rfl⟩ := h
            refine LocalOk.run fun w ρ bx' a hag hnew hs hr => ?_
            obtain ⟨he1, hs1, hf1⟩ := hs.frzs ks bx' hag hnd
            have hnil : bx' n0 = .nil := (hnew n0 (.row true et (rowOfChunks te (chunk sz len ts))) (by simp)).resolve_left hn0
            have hnil1 : appE bx' (frzE bx ks) n0 = .nil := by rw [appE_other _ _ _ (fun b hb => hn0 (frzE_keys hb))]; exact hnil
            have hzv : ∀ w, (zeroValue et).run P w = .ok z w := fun w => by
              unfold zeroOf at hz
              cases hi : P.info? et with
              | none => rw [hi] at hz; cases hz
              | some i =>
                rw [hi] at hz
                simp only [Option.bind_some] at hz
                simp [zeroValue, typeInfo, hi, hz]
            -- the zero cells
            let z0 : Array Value := (Array.range (len * sz)).map (fun i => (if len * sz = 0 then #[] else z.cells)[i % (if len * sz = 0 then #[] else z.cells).size]!)
            have hzc : RepL w ρ (appE bx' (frzE bx ks)) z0.toList (List.replicate len (z.cells.toList.map ofV1)).flatten := by
              refine ⟨by simp [z0, hzs], fun i v t h1 h2 => ?_⟩
              have hi : i < len * sz := by
                have := (List.getElem?_eq_some_iff.1 h1).1
                simpa [z0] using this
              have hne : ¬ len * sz = 0 := by omega
              rw [rep_get _ _ _ (by simpa [hzs] using hi)] at h2
              simp only [z0, hne, if_false, Array.toList_map, Array.toList_range, List.getElem?_map, List.getElem?_range hi, Option.map_some, Option.some.injEq, hzs] at h1
              simp only [List.length_map, Array.length_toList, hzs, List.getElem?_map] at h2
              have hm : i % sz < z.cells.size := by rw [hzs]; exact Nat.mod_lt _ hpos
              have hge : z.cells.toList[i % sz]? = some z.cells[i % sz]! := by
                rw [Array.getElem?_toList, getElem!_pos z.cells (i % sz) hm]
                exact Array.getElem?_eq_getElem hm
              rw [hge] at h2
              simp only [Option.map_some, Option.some.injEq] at h2
              subst h1; subst h2
              exact Rep_ofV1 _
            have hps : ∀ (j : Nat) (p : Nat × Value) (q : Nat × AV), ((ps.map fun (i, x) => (i, a.eval x)).toList)[j]? = some p → (ps.toList.map fun p => (p.1, ev p.2))[j]? = some q → p.1 = q.1 ∧ Rep w ρ (appE bx' (frzE bx ks)) p.2 q.2 := by
              intro j p q h1 h2
              simp only [Array.toList_map, List.getElem?_map] at h1 h2
              cases hj : ps.toList[j]? with
              | none => rw [hj] at h1; cases h1
              | some x =>
                rw [hj] at h1 h2
                simp at h1 h2
                subst h1; subst h2
                refine ⟨rfl, (hr x.2 ?_).ext he1⟩
                rw [ho]
                simp only [Op.operands, List.mem_toArray, List.mem_map]
                exact ⟨x, List.mem_of_getElem? hj, rfl⟩
            have hlen : ((ps.map fun (i, x) => (i, a.eval x)).toList).length = (ps.toList.map fun p => (p.1, ev p.2)).length := by simp
            obtain ⟨vs', k1, k2⟩ := fill_sound (fun i => some (i * sz, sz)) _ _ z0.toList _ cs hlen hps hzc hcs
            have hone' : ∀ v, v ∈ vs' → v.oneCell' = true := fun v hv => by
              obtain ⟨i, hi⟩ := List.mem_iff_getElem?.1 hv
              have hlt : i < cs.length := by rw [← k2.1]; exact (List.getElem?_eq_some_iff.1 hi).1
              exact (k2.2 i v _ hi (List.getElem?_eq_getElem hlt)).isOne (List.all_eq_true.1 hone _ (List.getElem_mem hlt))
            have htr := tTs_sound hs1 _ _ _ _ _ hts hf1 k2
            have hvl : vs'.length = len * sz := by rw [k2.1]; exact hcl
            have hrr : RowRep w (okS ρ (appE bx' (frzE bx ks))) vs' (rowOfChunks te (chunk sz len ts)) := RowRep.chunk htr hone' hsz hfits
            have hown : ownsR (w.alloc (.cells ⟨vs'⟩ et)) ρ.A et (rowOfChunks te (chunk sz len ts)).sz (.slice (some ⟨w.heap.size, 0, none⟩) len len) (rowOfChunks te (chunk sz len ts)).n vs' := by
              rw [rowOfChunks_n, chunk_len, show (rowOfChunks te (chunk sz len ts)).sz = sz from hsz]
              refine ⟨hvl, ?_⟩
              cases len with
              | zero => exact .inl ⟨_, rfl, rfl⟩
              | succ m =>
                refine .inr ⟨w.heap.size, m, ⟨vs'⟩, rfl, hs1.base _ (Nat.le_refl _), heap_alloc_new w _, Nat.le_refl _, ?_, by simp [hvl], by simp [← hvl]⟩
                have : (m + 1) * 1 ≤ (m + 1) * sz := Nat.mul_le_mul_left _ hpos
                simp only [maxLen]
                omega
            obtain ⟨ρ', he2, hs2, hhd⟩ := hs1.newRow hnil1 (full := true) ((Below.refl _ _).alloc (Nat.le_refl _) _) hown (fun b hb => by
              cases len with
              | zero => cases hb
              | succ m => simp only [ownB, Option.some.injEq] at hb; omega) hrr (fun _ a n c e => by injection e with _ e1 e2; rw [← e1, ← e2])
            refine ⟨.value (.slice (some ⟨w.heap.size, 0, none⟩) len len), .slice (some ⟨w.heap.size, 0, none⟩) len len, _, ρ', ?_, .inl rfl, by rw [appE_append]; exact he1.trans he2, by rw [appE_append]; exact hs2, ?_⟩
            · have k1' : Instr.fill (fun i => some (i * sz, sz)) z0 (ps.map fun (i, x) => (i, a.eval x)).toList = some ⟨vs'⟩ := k1
              have hlim' : ¬ 16777216 < len * sz := by omega
              by_cases hzero : len * sz = 0
              · simp only [z0, hzero, if_true] at k1'
                simp only [execOp, ho, Instr.buildSlice, Sem.run_bind, run_underlying hu, Result.andThen_ok, run_sizeOf_of hty, hzero]
                simp at k1'
                simp [k1', newRow]
              · simp only [z0, hzero, if_false, Array.toList_map] at k1'
                simp [execOp, ho, Instr.buildSlice, Sem.run_bind, run_underlying hu, run_sizeOf_of hty, hzero, hzv, hlim', k1', newRow]
            · rw [appE_append]
              have := Rep.mkRow (k := n0) (full := true) (e := et) (q := rowOfChunks te (chunk sz len ts)) (by show setBox _ _ _ n0 = _; rw [bget_setBox, if_pos rfl]) hs2
              rw [hhd] at this
              exact this
          · cases h
    · cases h
end Go.Cm
