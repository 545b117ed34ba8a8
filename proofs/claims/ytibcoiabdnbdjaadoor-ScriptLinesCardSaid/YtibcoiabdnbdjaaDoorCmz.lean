/- The abstract machine, third state: package variables that are laid: what is known of their cells. No condition. -/
import Derived.Test.YtibcoiabdnbdjaaDoorCmp
import Derived.LaidMore
import Derived.Lib.LaidTab
namespace Go.Cm
open Go.RowKit Go.ChangeShapes Go.WideShapes
set_option linter.unusedSectionVars false
variable [Sig]
/-- a datum of numbers, strings and truth values, as cells -/
def dLits {H : Type} : Nat → DataW H → Option (List Value)
  | 0, _ => none
  | n + 1, d => match d with
    | .lit (.int k z) => some [.int k z]
    | .lit (.bool b) => some [.bool b]
    | .lit (.string l) => some [.string ⟨l.toArray⟩]
    | .agg xs => (xs.mapM (dLits n)).map List.flatten
    | _ => none
omit [Sig] in
theorem mapM_flat {α β : Type} {f : α → Option (List β)} : ∀ {l : List α} {r : List (List β)}, l.mapM f = some r → ∀ (g : α → List β), (∀ a, a ∈ l → ∀ y, f a = some y → g a = y) → (l.map g).flatten = r.flatten
  | [], r, h, g, _ => by simp at h; subst h; rfl
  | x :: l, r, h, g, hg => by
    simp only [List.mapM_cons, Option.bind_eq_bind, Option.bind_eq_some_iff, Option.pure_def, Option.some.injEq] at h
    obtain ⟨b, hb, r', hr', rfl⟩ := h
    rw [List.map_cons, List.flatten_cons, List.flatten_cons, hg x (List.mem_cons_self ..) b hb, mapM_flat hr' g fun a ha => hg a (List.mem_cons_of_mem _ ha)]
theorem flatFs_cells {P : Program} {g : TypeId → Option (List (LK Sig.TI))} {cs : List Value} :
    ∀ (fs : List Field) (off : Nat) (ks : List (LK Sig.TI)), flatFs g P fs off = some ks → (cs.drop off).take ks.length = (fs.map fun f => (cs.drop f.offset).take (P.cellsOf f.type)).flatten
  | [], off, ks, e => by
    simp [flatFs] at e
    subst e
    simp
  | f :: fs, off, ks, e => by
    simp only [flatFs] at e
    cases h1 : g f.type with
    | none => rw [h1] at e; cases e
    | some c =>
      simp only [h1] at e
      cases h2 : f.offset == off && c.length == P.cellsOf f.type with
      | false => rw [h2] at e; cases e
      | true =>
        rw [h2] at e
        cases h3 : flatFs g P fs (off + c.length) with
        | none => rw [h3] at e; cases e
        | some r =>
          rw [h3] at e
          cases e
          simp at h2
          have ih := flatFs_cells (cs := cs) fs (off + c.length) r h3
          rw [List.length_append, List.take_add, List.drop_drop, ih, List.map_cons, List.flatten_cons, h2.1, ← h2.2]
omit [Sig] in
theorem chunks (c : Nat) : ∀ (m k : Nat) (cs : List Value), (cs.drop (k * c)).take (m * c) = ((List.range' k m).map fun i => (cs.drop (i * c)).take c).flatten
  | 0, k, cs => by simp
  | m + 1, k, cs => by
    rw [Nat.succ_mul, Nat.add_comm, List.take_add, List.drop_drop, List.range'_succ, List.map_cons, List.flatten_cons, ← chunks c m (k + 1) cs, Nat.succ_mul]
theorem flatFs_isSome {P : Program} {g : TypeId → Option (List (LK Sig.TI))} : ∀ (fs : List Field) (off : Nat) (ks : List (LK Sig.TI)), flatFs g P fs off = some ks → ∀ f, f ∈ fs → ∃ c, g f.type = some c
  | [], _, _, _, f, hf => by simp at hf
  | f0 :: fs, off, ks, e, f, hf => by
    simp only [flatFs] at e
    cases h1 : g f0.type with
    | none => rw [h1] at e; cases e
    | some c =>
      simp only [h1] at e
      cases h2 : f0.offset == off && c.length == P.cellsOf f0.type with
      | false => rw [h2] at e; cases e
      | true =>
        rw [h2] at e
        cases h3 : flatFs g P fs (off + c.length) with
        | none => rw [h3] at e; cases e
        | some r =>
          rcases List.mem_cons.1 hf with rfl | hf
          · exact ⟨c, h1⟩
          · exact flatFs_isSome fs _ r h3 f hf
theorem trod_lits {H : Type} {enc : TypeId × Value → H} {P : Program} {w : World} {base : Nat} {spare : Nat → Bool} {held : Bool} (hlay : laidOutB P = true) :
    ∀ (fuel : Nat) (t : TypeId) (cs : List Value) (d : DataW H) (p : List MemPlace) (n m : Nat) (ks : List (LK Sig.TI)) (vs : List Value), isVar P t = true → flatT P n t = some ks → DataW.trod enc P w base spare held fuel t cs = some (d, p) → dLits m d = some vs → cs = vs := by
  intro fuel
  induction fuel with
  | zero => intro t cs d p n m ks vs _ _ h; simp [DataW.trod] at h
  | succ fuel ih =>
    intro t cs d p n m ks vs hv hks h hl
    have hfine := rowFine_of hlay hv
    unfold rowFine at hfine
    rw [hv] at hfine
    simp only [Bool.not_true, Bool.false_or] at hfine
    cases m with
    | zero => cases hl
    | succ m =>
    cases n with
    | zero => cases hks
    | succ n =>
    unfold flatT at hks
    cases hd : P.underlying t with
    | none => rw [hd] at hks; cases hks
    | some ty =>
      rw [hd] at hks hfine
      cases ty with
      | bool =>
        obtain ⟨b, rfl, hx⟩ := DataW.trod_bool hd h
        injection hx with hx _; subst hx
        simpa [dLits] using hl
      | int k =>
        obtain ⟨z, rfl, hx, _⟩ := DataW.trod_int hd h
        injection hx with hx _; subst hx
        simpa [dLits] using hl
      | string =>
        obtain ⟨s, rfl, hx, _⟩ := DataW.trod_string hd h
        injection hx with hx _; subst hx
        simp only [dLits, Option.some.injEq] at hl
        subst hl
        simp
      | struct fs =>
        simp only [Bool.and_eq_true, beq_iff_eq] at hfine
        obtain ⟨⟨hf1, hf2⟩, hf3⟩ := hfine
        obtain ⟨xs, n', hn, hx, hlen, hxl, hg⟩ := DataW.trod_struct hd h
        have hn' : n' = fuel := by omega
        subst hn'
        injection hx with hx _; subst hx
        simp only at hks
        cases h3 : flatFs (flatT P n) P fs.toList 0 with
        | none => rw [h3] at hks; cases hks
        | some c =>
          rw [h3] at hks
          simp only at hks
          split at hks
          · rename_i hcl
            cases hks
            simp only [dLits] at hl
            obtain ⟨r, hr, rfl⟩ := Option.map_eq_some_iff.1 hl
            have hcs := flatFs_cells (cs := cs) fs.toList 0 ks h3
            simp at hcl
            rw [List.drop_zero, hcl, ← hlen, List.take_length] at hcs
            rw [hcs]
            congr 1
            apply List.ext_getElem?
            intro i
            rw [List.getElem?_map]
            cases hf : fs.toList[i]? with
            | none =>
              have hrl : r.length = xs.length := by
                have := Lib.mapM_length hr
                simpa using this
              rw [Option.map_none]
              symm
              rw [List.getElem?_eq_none_iff, hrl, hxl]
              have := List.getElem?_eq_none_iff.1 hf
              simpa using this
            | some f =>
              have hgi := hg i f (by simpa using hf)
              have hi : i < fs.size := by
                have := (List.getElem?_eq_some_iff.1 hf).1
                simpa using this
              have hix : i < xs.length := by omega
              rw [List.getElem?_eq_getElem hix] at hgi
              obtain ⟨y, hy1, hy2⟩ := Lib.mapM_at hr i xs[i].1 (by simp [hix])
              rw [hy1, Option.map_some]
              have hfm : f ∈ fs.toList := List.mem_of_getElem? hf
              obtain ⟨c', hc'⟩ := flatFs_isSome _ _ _ h3 f hfm
              rw [ih f.type _ xs[i].1 xs[i].2 n m c' y (List.all_eq_true.1 hf1 f hfm) hc' hgi hy2]
          · cases hks
      | array k e =>
        simp only [Bool.and_eq_true, beq_iff_eq] at hfine
        obtain ⟨xs, n', hm, hx, hlen, hxl, hg⟩ := DataW.trod_array hd h
        have hm' : n' = fuel := by omega
        subst hm'
        injection hx with hx _; subst hx
        simp only at hks
        cases h3 : flatT P n e with
        | none => rw [h3] at hks; cases hks
        | some c =>
          rw [h3] at hks
          simp only at hks
          split at hks
          · rename_i hcl
            cases hks
            simp at hcl
            simp only [dLits] at hl
            obtain ⟨r, hr, rfl⟩ := Option.map_eq_some_iff.1 hl
            have hrl : r.length = k := by
              have := Lib.mapM_length hr
              simp at this; omega
            have hcs := chunks (P.cellsOf e) k 0 cs
            rw [Nat.zero_mul, List.drop_zero, ← hcl.1, hcl.2, ← hlen, List.take_length] at hcs
            rw [hcs, hcl.1]
            congr 1
            apply List.ext_getElem?
            intro i
            rw [List.getElem?_map]
            by_cases hi : i < k
            · rw [List.getElem?_range' hi]
              have hix : i < xs.length := by omega
              have hgi := hg i hi
              rw [List.getElem?_eq_getElem hix] at hgi
              obtain ⟨y, hy1, hy2⟩ := Lib.mapM_at hr i xs[i].1 (by simp [hix])
              rw [hy1, Option.map_some]
              simp only [Nat.zero_add, Nat.one_mul]
              rw [ih e _ xs[i].1 xs[i].2 n m c y hfine.1 h3 hgi hy2]
            · rw [List.getElem?_eq_none_iff.2 (by rw [List.length_range']; omega), List.getElem?_eq_none_iff.2 (by omega), Option.map_none]
          · cases hks
      | slice e =>
        exfalso
        rcases DataW.trod_slice hd h with ⟨_, hx⟩ | ⟨a, len, cap, elems, rest, n', hn, _, hx, _⟩
        · injection hx with hx _; subst hx; cases hl
        · injection hx with hx _; subst hx; cases hl
      | _ => cases hks
/-- a laid package variable of plain data -/
theorem grow_of {P : Program} {w : World} {nm : String} {g : Nat} {t : TypeId} {fuel : Nat} {d : DataW Unit} {p : List MemPlace} {cs : Array Value} {q : Row} {n m : Nat} {ks : List (LK Sig.TI)} (hlay : laidOutB P = true) (hg : P.globalNamed nm = some g) (hv : w.var? P nm = some cs) (hd : DataW.trod (fun _ => ()) P w 0 (fun _ => true) false fuel t cs.toList = some (d, p))
    (ht : isVar P t = true) (hks : flatT P n t = some ks) (hl : dLits m d = some ((q.l.flatMap fun x => (Sig.enc q.e x).map litV))) (hlit : (Sig.shp q.e).all notSl = true) : g < w.heap.size ∧ GRow w g q := by
  have hcs := trod_lits hlay fuel t cs.toList d p n m ks _ ht hks hd hl
  have hcell : ∀ i v, cs[i]? = some v → w.cell? ⟨g, i, none⟩ = some v := fun i v hi => by
    rw [World.var?_cell hg hv i]; exact hi
  have hblk : ∃ ty sh, w.heap[g]? = some (.cells cs ty sh) := by
    unfold World.var? at hv
    rw [hg, Option.bind_some] at hv
    split at hv
    · rename_i c ty sh hh
      injection hv with hv; subst hv
      exact ⟨ty, sh, hh⟩
    · cases hv
  obtain ⟨ty, sh, hblk⟩ := hblk
  have hlen : ∀ l : List (Sig.Car q.e), (l.flatMap fun x => (Sig.enc q.e x).map litV).length = l.length * q.sz := fun l => by
    induction l with
    | nil => simp
    | cons x l ih =>
      rw [List.flatMap_cons, List.length_append, ih, List.length_map, fits_len (Sig.enc_fits q.e x), List.length_cons, Nat.succ_mul, Nat.add_comm]
      rfl
  have hat : ∀ (l : List (Sig.Car q.e)) (i j : Nat) (x : Sig.Car q.e) (v : Value), l[i]? = some x → ((Sig.enc q.e x).map litV)[j]? = some v → (l.flatMap fun x => (Sig.enc q.e x).map litV)[i * q.sz + j]? = some v := fun l => by
    induction l with
    | nil => intro i j x v hi; simp at hi
    | cons y l ih =>
      intro i j x v hi hj
      rw [List.flatMap_cons]
      have hyl : ((Sig.enc q.e y).map litV).length = q.sz := by rw [List.length_map, fits_len (Sig.enc_fits q.e y)]; rfl
      cases i with
      | zero =>
        simp at hi
        subst hi
        have hjl : j < ((Sig.enc q.e y).map litV).length := (List.getElem?_eq_some_iff.1 hj).1
        rw [Nat.zero_mul, Nat.zero_add, List.getElem?_append_left hjl]
        exact hj
      | succ i =>
        rw [List.getElem?_append_right (by rw [hyl, Nat.succ_mul]; omega), hyl, show (i + 1) * q.sz + j - q.sz = i * q.sz + j by rw [Nat.succ_mul]; omega]
        exact ih i j x v (by simpa using hi) hj
  refine ⟨(Array.getElem?_eq_some_iff.1 hblk).1, fun i j t hi ht' => ?_, cs, ty, sh, hblk, ?_⟩
  · have hx : q.l[i]? = some (q.l.getD i (Sig.dft q.e)) := by
      have : i < q.l.length := hi
      simp [List.getD, List.getElem?_eq_getElem this]
    obtain ⟨v, rfl⟩ := fits_lit (Sig.enc_fits q.e (q.l.getD i (Sig.dft q.e))) hlit t (List.mem_of_getElem? ht')
    refine ⟨v, rfl, hcell _ v ?_⟩
    have := hat q.l i j _ v hx (by
      have ht2 : (Sig.enc q.e (q.l.getD i (Sig.dft q.e)))[j]? = some (.lit v) := ht'
      rw [List.getElem?_map, ht2]; rfl)
    rw [← hcs] at this
    simpa using this
  · have := congrArg List.length hcs
    rw [hlen, Array.length_toList] at this
    exact this
end Go.Cm
