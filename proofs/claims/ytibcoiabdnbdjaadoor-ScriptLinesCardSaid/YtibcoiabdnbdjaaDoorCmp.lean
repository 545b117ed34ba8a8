/- The abstract machine, third state, part 25: the arguments of a law read as typed data; a law's call out of the contract of its function. No condition. -/
import Derived.Test.YtibcoiabdnbdjaaDoorCmo
import Derived.ProofKit
import Derived.OpenShut
import Derived.Carry
namespace Go.Cm
open Go.RowKit Go.ChangeShapes Go.WideShapes
set_option linter.unusedSectionVars false
variable [Sig]

/-- data that is within the bounds of its types -/
inductive WfT : Tree → Prop
  | int (k : IntKind) (z : Int) (h : (Lit.int k z).wf = true) : WfT (.lit (.int k z))
  | bool (b : Bool) : WfT (.lit (.bool b))
  | str (s : ByteArray) (h : s.size ≤ maxLen) : WfT (.lit (.string s))
  | sl (q : Row) (hl : q.n ≤ maxLen) (h : ∀ x, x ∈ q.l → ∀ t, t ∈ Sig.enc q.e x → WfT t) : WfT (.sl q)
def WfE (e : Sig.TI) (x : Sig.Car e) : Prop := ∀ t, t ∈ Sig.enc e x → WfT t
theorem WfT.inv_int {k : IntKind} {z : Int} (h : WfT (.lit (.int k z))) : (Lit.int k z).wf = true := by cases h; assumption
theorem WfT.inv_str {s : ByteArray} (h : WfT (.lit (.string s))) : s.size ≤ maxLen := by cases h; assumption
theorem WfT.inv_sl {q : Row} (h : WfT (.sl q)) : q.n ≤ maxLen ∧ ∀ x, x ∈ q.l → WfE q.e x := by cases h with | sl _ hl h => exact ⟨hl, h⟩

def Fw (ks : List (LK Sig.TI)) (ts : List Tree) : Prop := fits ks ts = true ∧ ∀ t, t ∈ ts → WfT t
theorem Fw.app : ∀ {cs : List (LK Sig.TI)} {ts : List Tree} {ds : List (LK Sig.TI)} {us : List Tree}, Fw cs ts → Fw ds us → Fw (cs ++ ds) (ts ++ us)
  | [], [], _, _, _, h2 => h2
  | [], _ :: _, _, _, h, _ => by cases h.1
  | _ :: _, [], _, _, h, _ => by cases h.1
  | c :: cs, t :: ts, ds, us, h, h2 => by
    obtain ⟨h1, h3⟩ := h
    simp only [fits, Bool.and_eq_true] at h1
    have := Fw.app (cs := cs) (ts := ts) ⟨h1.2, fun t ht => h3 t (List.mem_cons_of_mem _ ht)⟩ h2
    refine ⟨by simp only [List.cons_append, fits, h1.1, this.1, Bool.and_self], fun x hx => ?_⟩
    simp only [List.cons_append, List.mem_cons, List.mem_append] at hx
    rcases hx with rfl | hx | hx
    · exact h3 _ (by simp)
    · exact h3 _ (by simp [hx])
    · exact h2.2 _ hx
theorem Fw.len {cs : List (LK Sig.TI)} {ts : List Tree} (h : Fw cs ts) : ts.length = cs.length := fits_len h.1
theorem Fw.one {k : LK Sig.TI} {t : Tree} (h : fit1 k t = true) (hw : WfT t) : Fw [k] [t] := ⟨by simp [fits, h], fun x hx => by simp at hx; rw [hx]; exact hw⟩

/-- the data types that arguments may hold: no builders -/
def ofP (t : TypeId) : Option Sig.TI := match Sig.bld t with
  | true => none
  | false => Sig.ofId t
def flatFs (g : TypeId → Option (List (LK Sig.TI))) (P : Program) : List Field → Nat → Option (List (LK Sig.TI))
  | [], _ => some []
  | f :: fs, off =>
    match g f.type with
    | none => none
    | some c =>
      match f.offset == off && c.length == P.cellsOf f.type, flatFs g P fs (off + c.length) with
      | true, some r => some (c ++ r)
      | _, _ => none
def flatT (P : Program) : Nat → TypeId → Option (List (LK Sig.TI))
  | 0, _ => none
  | n + 1, t =>
    match P.underlying t with
    | some .bool => some [.bool]
    | some (.int k) => some [.int k]
    | some .string => some [.str]
    | some (.slice e) => match ofP e with
      | some e' => some [.sl e']
      | none => none
    | some (.struct fs) =>
      match flatFs (flatT P n) P fs.toList 0 with
      | some cs => if cs.length == P.cellsOf t then some cs else none
      | none => none
    | some (.array m e) =>
      match flatT P n e with
      | some c => if c.length == P.cellsOf e && m * c.length == P.cellsOf t then some (List.replicate m c).flatten else none
      | none => none
    | _ => none
def lkB : LK Sig.TI → LK Sig.TI → Bool
  | .int k, .int k' => decide (k = k')
  | .bool, .bool => true
  | .str, .str => true
  | .sl e, .sl e' => decide (e = e')
  | _, _ => false
def lksB : List (LK Sig.TI) → List (LK Sig.TI) → Bool
  | [], [] => true
  | a :: as, b :: bs => lkB a b && lksB as bs
  | _, _ => false
theorem lkB_eq : ∀ {a b : LK Sig.TI}, lkB a b = true → a = b
  | .int k, .int k', h => by rw [of_decide_eq_true (p := k = k') h]
  | .bool, .bool, _ => rfl
  | .str, .str, _ => rfl
  | .sl e, .sl e', h => by rw [of_decide_eq_true (p := e = e') h]
  | .int _, .bool, h | .int _, .str, h | .int _, .sl _, h | .bool, .int _, h | .bool, .str, h | .bool, .sl _, h | .str, .int _, h | .str, .bool, h | .str, .sl _, h | .sl _, .int _, h | .sl _, .bool, h | .sl _, .str, h => by cases h
theorem lksB_eq : ∀ {a b : List (LK Sig.TI)}, lksB a b = true → a = b
  | [], [], _ => rfl
  | a :: as, b :: bs, h => by simp only [lksB, Bool.and_eq_true] at h; rw [lkB_eq h.1, lksB_eq h.2]
  | [], _ :: _, h | _ :: _, [], h => by cases h
def aggB (P : Program) (t : TypeId) : Bool := match P.underlying t with | some (.struct _) => true | some (.array _ _) => true | _ => false
def tyOne (P : Program) (t : TypeId) (e : Sig.TI) : Bool := match flatT P 20 t with
  | some ks => lksB ks (Sig.shp e) && (Sig.isAgg e == aggB P t)
  | none => false
def tysB (P : Program) : Bool := (List.range P.types.size).all fun t => match ofP t with
  | none => true
  | some e => tyOne P t e
theorem tyOne_spec {P : Program} {t : TypeId} {e : Sig.TI} (h : tyOne P t e = true) : flatT P 20 t = some (Sig.shp e) ∧ Sig.isAgg e = aggB P t := by
  unfold tyOne at h
  split at h
  · rename_i ks hk
    simp only [Bool.and_eq_true, beq_iff_eq] at h
    rw [hk, lksB_eq h.1]
    exact ⟨rfl, h.2⟩
  · cases h
theorem isVar_lt {P : Program} {t : TypeId} (hv : isVar P t = true) : t < P.types.size := by
  unfold isVar at hv
  simp only [Bool.and_eq_true, decide_eq_true_eq] at hv
  exact hv.1
theorem tysB_spec {P : Program} (h : tysB P = true) {t : TypeId} {e : Sig.TI} (hv : isVar P t = true) (he : ofP t = some e) : tyOne P t e = true := by
  have := List.all_eq_true.1 h t (List.mem_range.2 (isVar_lt hv))
  rw [he] at this
  exact this

theorem rowFine_of {P : Program} (hl : laidOutB P = true) {t : TypeId} (hv : isVar P t = true) : rowFine P t = true := by
  unfold laidOutB at hl
  simp only [Bool.and_eq_true] at hl
  exact List.all_eq_true.1 hl.1.1 t (List.mem_range.2 (isVar_lt hv))
theorem RepTL.append {w : World} {ok : Nat → Prop} {vs us : List Value} {ts ss : List Tree} (h : RepTL w ok vs ts) (h' : RepTL w ok us ss) : RepTL w ok (vs ++ us) (ts ++ ss) := by
  refine ⟨by simp [h.1, h'.1], fun i v t h1 h2 => ?_⟩
  rw [List.getElem?_append] at h1 h2
  by_cases hi : i < vs.length
  · rw [if_pos hi] at h1
    rw [if_pos (by rw [← h.1]; exact hi)] at h2
    exact h.2 i v t h1 h2
  · rw [if_neg hi] at h1
    rw [if_neg (by rw [← h.1]; exact hi), ← h.1] at h2
    exact h'.2 _ v t h1 h2

theorem flatFs_rep {P : Program} {g : TypeId → Option (List (LK Sig.TI))} {w : World} {cs : List Value} :
    ∀ (fs : List Field) (off : Nat) (ks : List (LK Sig.TI)), (∀ f, f ∈ fs → ∀ c, g f.type = some c → ∃ ts, RepTL w (fun _ => True) ((cs.drop f.offset).take (P.cellsOf f.type)) ts ∧ Fw c ts) → flatFs g P fs off = some ks →
    ∃ ts, RepTL w (fun _ => True) ((cs.drop off).take ks.length) ts ∧ Fw ks ts
  | [], off, ks, _, e => by
    simp [flatFs] at e
    subst e
    exact ⟨[], ⟨by simp, fun i v t h => by simp at h⟩, rfl, fun t ht => by simp at ht⟩
  | f :: fs, off, ks, h, e => by
    simp only [flatFs] at e
    cases h1 : g f.type with
    | none => rw [h1] at e; cases e
    | some c =>
      simp only [h1] at e
      cases h2 : f.offset == off && c.length == P.cellsOf f.type with
      | false => rw [h2] at e; cases e
      | true =>
        rw [h2] at e
        cases h3 : flatFs g P fs (off + c.length) with
        | none => rw [h3] at e; cases e
        | some r =>
          rw [h3] at e
          cases e
          simp at h2
          obtain ⟨t1, k1, q1⟩ := h f (List.mem_cons_self ..) c h1
          obtain ⟨t2, k2, q2⟩ := flatFs_rep fs (off + c.length) r (fun f hf => h f (List.mem_cons_of_mem _ hf)) h3
          rw [h2.1, ← h2.2] at k1
          refine ⟨t1 ++ t2, ?_, q1.app q2⟩
          rw [List.length_append, List.take_add, List.drop_drop]
          exact k1.append k2

theorem flat_rep {P : Program} {w : World} {cs : List Value} {e : TypeId} {c : List (LK Sig.TI)} (hc : c.length = P.cellsOf e) :
    ∀ (m k : Nat), (∀ i, k ≤ i → i < k + m → ∃ ts, RepTL w (fun _ => True) ((cs.drop (i * P.cellsOf e)).take (P.cellsOf e)) ts ∧ Fw c ts) → ∃ ts, RepTL w (fun _ => True) ((cs.drop (k * P.cellsOf e)).take (m * P.cellsOf e)) ts ∧ Fw (List.replicate m c).flatten ts
  | 0, k, _ => ⟨[], ⟨by simp, fun i v t h => by simp at h⟩, rfl, fun t ht => by simp at ht⟩
  | m + 1, k, h => by
    obtain ⟨t1, k1, q1⟩ := h k (Nat.le_refl _) (by omega)
    obtain ⟨t2, k2, q2⟩ := flat_rep hc m (k + 1) (fun i h1 h2 => h i (by omega) (by omega))
    refine ⟨t1 ++ t2, ?_, ?_⟩
    · rw [Nat.succ_mul, Nat.add_comm, List.take_add, List.drop_drop]
      rw [Nat.succ_mul] at k2
      exact k1.append k2
    · rw [List.replicate_succ, List.flatten_cons]
      exact q1.app q2

theorem one_of_fit {w : World} {ok : Nat → Prop} {v : Value} {t : Tree} {k : LK Sig.TI} (r : RepT w ok v t) (h : fit1 k t = true) : v.oneCell' = true := by
  cases r with
  | lit v => cases k <;> cases v <;> first | rfl | cases h
  | sl => rfl
theorem fits_get : ∀ {ks : List (LK Sig.TI)} {ts : List Tree}, fits ks ts = true → ∀ (j : Nat) (t : Tree), ts[j]? = some t → ∃ k, fit1 k t = true
  | [], [], _, j, t, h => by simp at h
  | [], _ :: _, h, _, _, _ | _ :: _, [], h, _, _, _ => by cases h
  | k :: ks, t :: ts, h, j, t', hj => by
    simp only [fits, Bool.and_eq_true] at h
    match j, hj with
    | 0, hj => simp at hj; subst hj; exact ⟨k, h.1⟩
    | j + 1, hj => exact fits_get h.2 j t' (by simpa using hj)

theorem trod_rep {H : Type} {enc : TypeId × Value → H} {P : Program} {w : World} {base : Nat} {spare : Nat → Bool} {held : Bool} (hlay : laidOutB P = true) (hty : tysB P = true) :
    ∀ (fuel : Nat) (t : TypeId) (cs : List Value) (x : DataW H × List MemPlace) (n : Nat) (ks : List (LK Sig.TI)), isVar P t = true → flatT P n t = some ks → DataW.trod enc P w base spare held fuel t cs = some x → ∃ ts, RepTL w (fun _ => True) cs ts ∧ Fw ks ts := by
  intro fuel
  induction fuel with
  | zero => intro t cs x n ks _ _ h; simp [DataW.trod] at h
  | succ fuel ih =>
    intro t cs x n ks hv hks h
    have hfine := rowFine_of hlay hv
    unfold rowFine at hfine
    rw [hv] at hfine
    simp only [Bool.not_true, Bool.false_or] at hfine
    have one : ∀ (v : Value) (t : Tree), RepT w (fun _ => True) v t → RepTL w (fun _ => True) [v] [t] := fun v t hr => ⟨rfl, fun i v' t' h1 h2 => by
      match i, h1, h2 with
      | 0, h1, h2 => simp at h1 h2; subst h1; subst h2; exact hr
      | i + 1, h1, _ => simp at h1⟩
    cases n with
    | zero => cases hks
    | succ n =>
    unfold flatT at hks
    cases hd : P.underlying t with
    | none => rw [hd] at hks; cases hks
    | some d =>
      rw [hd] at hfine hks
      cases d with
      | bool =>
        obtain ⟨b, rfl, _⟩ := DataW.trod_bool hd h
        cases hks
        exact ⟨_, one _ _ (.lit _), Fw.one rfl (.bool b)⟩
      | int k =>
        obtain ⟨n, rfl, _, hw⟩ := DataW.trod_int hd h
        cases hks
        exact ⟨_, one _ _ (.lit _), Fw.one (by simp [fit1]) (.int k n hw)⟩
      | string =>
        obtain ⟨s, rfl, _, hs⟩ := DataW.trod_string hd h
        cases hks
        exact ⟨_, one _ _ (.lit _), Fw.one rfl (.str s hs)⟩
      | slice e =>
        simp only [Bool.and_eq_true] at hfine
        simp only at hks
        cases hoe : ofP e with
        | none => rw [hoe] at hks; cases hks
        | some e' =>
        rw [hoe] at hks
        cases hks
        obtain ⟨hfe, _⟩ := tyOne_spec (tysB_spec hty hfine.1 hoe)
        rcases DataW.trod_slice hd h with ⟨rfl, _⟩ | ⟨a, len, cap, elems, rest, n, hn, rfl, _, _, hl, hm, hlen, hel, _⟩
        · refine ⟨[.sl ⟨e', []⟩], one _ _ (.sl none 0 0 ⟨e', []⟩ (fun _ _ => undef) rfl (Nat.le_refl _) (Nat.zero_le _) (fun i j h => absurd h (Nat.not_lt_zero _)) (fun i j h => absurd h (Nat.not_lt_zero _)) (fun i j t h => absurd h (Nat.not_lt_zero _))), Fw.one (by simp [fit1]) (.sl _ (Nat.zero_le _) (fun x hx => by simp at hx))⟩
        · have hn' : n = fuel := by omega
          subst hn'
          have H : ∀ i, i < len → ∃ p : List Value × List Tree, w.cells? base (a.add (i * P.cellsOf e)) (P.cellsOf e) = some p.1 ∧ RepTL w (fun _ => True) p.1 p.2 ∧ Fw (Sig.shp e') p.2 := by
            intro i hi
            have h1 := hel i hi
            rw [List.getElem?_eq_getElem (by omega)] at h1
            cases hc : w.cells? base (a.add (i * P.cellsOf e)) (P.cellsOf e) with
            | none => rw [hc] at h1; cases h1
            | some cs' =>
              rw [hc] at h1
              obtain ⟨ts, r1, r2⟩ := ih e cs' _ 20 _ hfine.1 hfe h1
              exact ⟨(cs', ts), rfl, r1, r2⟩
          let F : Nat → List Value × List Tree := fun i => if hi : i < len then Classical.choose (H i hi) else ([], [])
          have hF : ∀ i, i < len → w.cells? base (a.add (i * P.cellsOf e)) (P.cellsOf e) = some (F i).1 ∧ RepTL w (fun _ => True) (F i).1 (F i).2 ∧ Fw (Sig.shp e') (F i).2 := fun i hi => by
            have := Classical.choose_spec (H i hi)
            simp only [F, dif_pos hi]
            exact this
          have hg : ∀ i, i < len → RowOf.g (⟨e', (List.range len).map fun i => Sig.dec e' (F i).2⟩ : Row) i = (F i).2 := fun i hi => by
            have : ((List.range len).map fun i => Sig.dec e' (F i).2)[i]? = some (Sig.dec e' (F i).2) := by
              rw [List.getElem?_map, List.getElem?_range hi]; rfl
            simp only [RowOf.g, List.getD, this, Option.getD_some]
            exact Sig.enc_dec _ _ (hF i hi).2.2.1
          have hsz : ∀ i, i < len → P.cellsOf e = (Sig.shp e').length := fun i hi => by
            obtain ⟨q1, q2, q3⟩ := hF i hi
            rw [← q3.len, ← q2.1]
            exact (World.cells?_some q1).2.1.symm
          refine ⟨[.sl ⟨e', (List.range len).map fun i => Sig.dec e' (F i).2⟩], one _ _ ?_, Fw.one (by simp [fit1]) (.sl _ (by simp [RowOf.n]; omega) (fun x hx => ?_))⟩
          · refine .sl (some a) len cap _ (fun i j => (F i).1.getD j undef) (by simp [RowOf.n]) hl hm (fun i j hi hj => ?_) (fun i j hi hj => ?_) (fun i j t hi ht => ?_)
            · have hi' : i < len := by simpa [RowOf.n] using hi
              obtain ⟨q1, q2, q3⟩ := hF i hi'
              have hj' : j < (Sig.shp e').length := hj
              have hj1 : j < (F i).1.length := by rw [q2.1, q3.len]; exact hj'
              have hj2 : j < (F i).2.length := by rw [q3.len]; exact hj'
              obtain ⟨k, hk⟩ := fits_get q3.1 j _ (List.getElem?_eq_getElem hj2)
              have := q2.2 j _ _ (List.getElem?_eq_getElem hj1) (List.getElem?_eq_getElem hj2)
              simp only [List.getD, List.getElem?_eq_getElem hj1, Option.getD_some]
              exact one_of_fit this hk
            · have hi' : i < len := by simpa [RowOf.n] using hi
              obtain ⟨q1, q2, q3⟩ := hF i hi'
              have hj' : j < (Sig.shp e').length := hj
              have hj1 : j < (F i).1.length := by rw [q2.1, q3.len]; exact hj'
              obtain ⟨_, q4, q5⟩ := World.cells?_some q1
              have hcell := q5 j (by omega)
              rw [List.getElem?_eq_getElem hj1] at hcell
              have hsp : a.spot = none := by
                obtain ⟨p1, p2, p6⟩ := hF 0 (by omega)
                obtain ⟨_, p3, p4⟩ := World.cells?_some p1
                have hc0 := p4 0 (by omega)
                rw [List.getElem?_eq_getElem (by omega)] at hc0
                have := World.cell?_spot hc0
                simpa [Addr.add] using this
              refine ⟨a, rfl, hsp, trivial, ?_⟩
              obtain ⟨b, o, sp⟩ := a
              simp only at hsp
              subst hsp
              rw [add_none, add_none, Nat.add_assoc, hsz i hi'] at hcell
              simp only [List.getD, List.getElem?_eq_getElem hj1, Option.getD_some]
              exact hcell
            · have hi' : i < len := by simpa [RowOf.n] using hi
              rw [hg i hi'] at ht
              obtain ⟨q1, q2, q3⟩ := hF i hi'
              have hj2 : j < (F i).2.length := (List.getElem?_eq_some_iff.1 ht).1
              have hj1 : j < (F i).1.length := by rw [q2.1]; exact hj2
              simp only [List.getD, List.getElem?_eq_getElem hj1, Option.getD_some]
              exact q2.2 j _ t (List.getElem?_eq_getElem hj1) ht
          · obtain ⟨i, hi, rfl⟩ := List.mem_map.1 hx
            have hi' := List.mem_range.1 hi
            intro t ht
            rw [show Sig.enc e' (Sig.dec e' (F i).2) = (F i).2 from Sig.enc_dec _ _ (hF i hi').2.2.1] at ht
            exact (hF i hi').2.2.2 t ht
      | struct fs =>
        simp only [Bool.and_eq_true, beq_iff_eq] at hfine
        obtain ⟨⟨hf1, hf2⟩, hf3⟩ := hfine
        obtain ⟨xs, n', hn, _, hlen, _, hg⟩ := DataW.trod_struct hd h
        have hn' : n' = fuel := by omega
        subst hn'
        simp only at hks
        cases h3 : flatFs (flatT P n) P fs.toList 0 with
        | none => rw [h3] at hks; cases hks
        | some c =>
          rw [h3] at hks
          simp only at hks
          split at hks
          · rename_i hcl
            cases hks
            obtain ⟨ts, k1, k2⟩ := flatFs_rep (P := P) (w := w) (cs := cs) fs.toList 0 ks (fun f hf c hc => by
              obtain ⟨i, hi, hfi⟩ := List.mem_iff_getElem.1 hf
              have hgi := hg i f (by rw [← hfi]; simp)
              have hxi : ∃ y, xs[i]? = some y := by
                cases hx : xs[i]? with
                | some y => exact ⟨y, rfl⟩
                | none =>
                  have hxl : xs.length = fs.size := by assumption
                  rw [List.getElem?_eq_none_iff] at hx
                  simp at hi
                  omega
              obtain ⟨y, hy⟩ := hxi
              rw [hy] at hgi
              exact ih f.type _ y n c (List.all_eq_true.1 hf1 f hf) hc hgi) h3
            simp at hcl
            rw [List.drop_zero, hcl, ← hlen, List.take_length] at k1
            exact ⟨ts, k1, k2⟩
          · cases hks
      | array m e =>
        simp only [Bool.and_eq_true, beq_iff_eq] at hfine
        obtain ⟨xs, n', hm, _, hlen, hxl, hg⟩ := DataW.trod_array hd h
        have hm' : n' = fuel := by omega
        subst hm'
        simp only at hks
        cases h3 : flatT P n e with
        | none => rw [h3] at hks; cases hks
        | some c =>
          rw [h3] at hks
          simp only at hks
          split at hks
          · rename_i hcl
            cases hks
            simp at hcl
            obtain ⟨ts, k1, k2⟩ := flat_rep (P := P) (w := w) (cs := cs) hcl.1 m 0 (fun i _ hi => by
              have hgi := hg i (by omega)
              rw [List.getElem?_eq_getElem (by omega)] at hgi
              exact ih e _ _ n c hfine.1 h3 hgi)
            rw [Nat.zero_mul, List.drop_zero, ← hcl.1, hcl.2, ← hlen, List.take_length] at k1
            exact ⟨ts, k1, k2⟩
          · cases hks
      | _ => cases hks

/-! arguments -/
/-- the arguments' types, and their types in Lean -/
def tsB (P : Program) : List TypeId → List Sig.TI → Bool
  | [], [] => true
  | t :: ts, e :: es => isVar P t && (P.readableRec t && decide (t < P.types.size)) && tyOne P t e && tsB P ts es
  | _, _ => false
/-- a property of all well-formed arguments -/
def AllW {R : Type} (p : R → Prop) : (ts : List Sig.TI) → Fn ts R → Prop
  | [], f => p f
  | t :: ts, f => ∀ x, WfE t x → AllW p ts (f x)

theorem args_rep {H : Type} {enc : TypeId × Value → H} {P : Program} {w : World} {r : Reach} {b0 base : Nat} {spare : Nat → Bool} {held : Bool} (hlay : laidOutB P = true) (hty : tysB P = true) :
    ∀ (ts : List TypeId) (es : List Sig.TI) (vs : List Value) (ds : List (DataW H)) (p : List MemPlace), tsB P ts es = true → (∀ (j : Nat) t v, ts[j]? = some t → vs[j]? = some v → Value.okWide P w r b0 t v) →
    DataW.TrodAll enc P w base spare held ts vs ds p → ∃ cs : List (List Tree), RepL w env0 nilB vs (argA es cs) ∧ ∀ {R : Type} {p : R → Prop} (f : Fn es R), AllW p es f → ∃ y, apF es f cs = some y ∧ p y
  | [], [], [], [], _, _, _, _ => ⟨[], ⟨rfl, fun i v t h1 => by simp at h1⟩, fun f h => ⟨f, rfl, h⟩⟩
  | [], [], _ :: _, _, _, _, _, h => by simp [DataW.TrodAll] at h
  | [], [], [], _ :: _, _, _, _, h => by simp [DataW.TrodAll] at h
  | [], _ :: _, _, _, _, h, _, _ => by cases h
  | _ :: _, [], _, _, _, h, _, _ => by cases h
  | t :: ts, e :: es, vs, ds, p, hv, hok, h => by
    obtain ⟨v, vs', d, ds', p1, q, rfl, rfl, _, h1, h2⟩ := trodAll_cons h
    simp only [tsB, Bool.and_eq_true] at hv
    obtain ⟨⟨⟨hv1, _⟩, hv2⟩, hv3⟩ := hv
    obtain ⟨hfe, hag⟩ := tyOne_spec hv2
    obtain ⟨fuel, hf⟩ := h1
    obtain ⟨c, g1, g2⟩ := trod_rep hlay hty fuel t _ _ 20 _ hv1 hfe hf
    obtain ⟨cs, k1, k2⟩ := args_rep hlay hty ts es vs' ds' q hv3 (fun j t v a b => hok (j + 1) t v (by simpa using a) (by simpa using b)) h2
    have hrow : RepL w env0 nilB v.cells.toList (c.map ofTree) := ⟨by rw [List.length_map]; exact g1.1, fun i v' t' e1 e2 => by
      rw [List.getElem?_map] at e2
      cases h3 : c[i]? with
      | none => rw [h3] at e2; cases e2
      | some t'' =>
        rw [h3] at e2
        simp at e2
        subst e2
        exact Rep_ofTree ((g1.2 i v' t'' e1 h3).ext (fun b _ _ => ⟨rfl, ok_env0 b⟩))⟩
    have hav : Rep w env0 nilB v (avT e (c.map ofTree)) := by
      refine avT_rep (vs := v.cells.toList) ?_ hrow
      have hok0 := hok 0 t v rfl rfl
      rw [hag]
      cases ha : aggB P t with
      | true =>
        left
        have hagg : ∃ cs : Array Value, v = .agg cs := by
          unfold aggB at ha
          unfold Value.okWide at hok0
          split at ha
          · rename_i fs hfs; rw [hfs] at hok0; exact ⟨hok0.choose, hok0.choose_spec.1⟩
          · rename_i n e hfs; rw [hfs] at hok0; exact ⟨hok0.choose, hok0.choose_spec.1⟩
          · cases ha
        obtain ⟨cs, rfl⟩ := hagg
        exact ⟨rfl, rfl⟩
      | false =>
        right
        refine ⟨rfl, cells_of_one ?_⟩
        unfold aggB at ha
        unfold Value.okWide at hok0
        split at hok0
        · rename_i fs hfs; rw [hfs] at ha; cases ha
        · rename_i n e hfs; rw [hfs] at ha; cases ha
        · unfold Cell.okWide at hok0
          cases v <;> first | rfl | (exfalso; revert hok0; cases hu : P.underlying t with | none => simp [Cell.ok, hu] | some d => cases d <;> simp [Cell.ok, hu])
    refine ⟨c :: cs, ⟨by simp [argA, k1.1], fun i v' t' e1 e2 => ?_⟩, fun {R p} f hall => ?_⟩
    · match i, e1, e2 with
      | 0, e1, e2 => simp [argA] at e1 e2; subst e1; subst e2; exact hav
      | i + 1, e1, e2 => exact k1.2 i v' t' (by simpa using e1) (by simpa [argA] using e2)
    · have hw : WfE e (Sig.dec e c) := fun t ht => by
        rw [Sig.enc_dec _ _ g2.1] at ht
        exact g2.2 t ht
      obtain ⟨y, hy, hp⟩ := k2 (f (Sig.dec e c)) (hall _ hw)
      refine ⟨y, ?_, hp⟩
      simp only [apF, g2.1]
      exact hy

theorem trodAll_below {H : Type} {enc : TypeId × Value → H} {P : Program} {W W' : World} (hl : laidOutB P = true) (hb : Below W.heap.size W W') :
    ∀ (ts : List TypeId) (es : List Sig.TI) (vs : List Value) (ds : List (DataW H)) (p : List MemPlace), tsB P ts es = true →
    DataW.TrodAll enc P W 0 (fun _ => true) true ts vs ds p → DataW.TrodAll enc P W' 0 (fun b => decide (b < W.heap.size)) true ts vs ds p
  | [], [], [], [], _, _, h => h
  | [], [], _ :: _, _, _, _, h => by simp [DataW.TrodAll] at h
  | [], [], [], _ :: _, _, _, h => by simp [DataW.TrodAll] at h
  | [], _ :: _, _, _, _, h, _ => by cases h
  | _ :: _, [], _, _, _, h, _ => by cases h
  | t :: ts, e :: es, vs, ds, p, hr, h => by
    obtain ⟨v, vs', d, ds', p1, q, rfl, rfl, rfl, h1, h2⟩ := trodAll_cons h
    simp only [tsB, Bool.and_eq_true, decide_eq_true_eq] at hr
    obtain ⟨⟨⟨_, hr1⟩, _⟩, hr3⟩ := hr
    refine ⟨p1, q, Below.trod hl hr1.1 hr1.2 h1 hb (by obtain ⟨m, hm⟩ := h1; exact DataW.trod_lt m _ _ _ hm), trodAll_below hl hb ts es vs' ds' q hr3 h2, rfl⟩

/-- the call of a law -/
theorem law_calls {H : Type} {enc : TypeId × Value → H} {P : Program} {W : World} {f : FuncId} {base : Nat} {ts : List TypeId} {args : Array Value} {ds : List (DataW H)} {p : List MemPlace} (hlay : laidOutB P = true) (hty : tysB P = true)
    {es rs : List Sig.TI} {own : List (List (Option TypeId))} {fn : Fn es (Option (Ress rs))} (hd : DenF P f ⟨es, rs, own, fn⟩) (hes : tsB P ts es = true) {b1 : Ress rs} (hb1 : oneA (resL rs own (encR rs b1) 0).1 = .lit (.bool true))
    (hok : ∀ (j : Nat) t v, ts[j]? = some t → args[j]? = some v → Value.okWide P W .any base t v)
    (hA : DataW.TrodAll enc P W 0 (fun _ => true) true ts args.toList ds p) (htrue : AllW (fun y => y = some b1) es fn) (hG : GlobOk W env0 nilB) :
    Calls P f args W fun e W' => e = .returned (.bool true) ∧ Below W.heap.size W W' ∧ DataW.TrodAll enc P W' 0 (fun b => decide (b < W.heap.size)) true ts args.toList ds p := by
  obtain ⟨cs, h1, h2⟩ := args_rep hlay hty ts es args.toList ds p hes (fun j t v a b => hok j t v a (by simpa using b)) hA
  obtain ⟨y, hy, hp⟩ := h2 fn htrue
  rw [hp] at hy
  have hcalls := (hd.den cs b1 hy 0).calls W env0 _ (sim_env0' hG) h1
  refine hcalls.mono fun e W' ⟨v, ρc, he, hext, hso, hv⟩ => ?_
  have hbel : Below W.heap.size W W' := ⟨hext.below.os, hext.below.tape, hext.below.output, hext.below.size, fun b hb => hext.keep b hb (fun ⟨k, hk⟩ => (by rw [own_env0] at hk; cases hk))⟩
  simp only at hv
  rw [hb1] at hv
  obtain rfl := hv.inv_lit
  exact ⟨he, hbel, trodAll_below hlay hbel ts es _ ds p hes hA⟩
end Go.Cm
