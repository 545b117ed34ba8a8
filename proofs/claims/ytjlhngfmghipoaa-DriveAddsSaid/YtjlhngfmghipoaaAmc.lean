/- The abstract machine, part 12: the arguments of a law read as trees, typed; a law's row out of the contract of its function. No condition. -/
import Derived.Test.YtjlhngfmghipoaaAmb
import Derived.ProofKit
import Derived.OpenShut
import Derived.Carry
namespace Go.Am
open Go.RowKit Go.ChangeShapes Go.WideShapes

def otherD : TypeDesc → Bool
  | .bool | .int _ | .string | .slice _ | .struct _ | .array _ _ => false
  | _ => true
/-- cells of a value of a type -/
inductive TyT (P : Program) : TypeId → List Tree → Prop
  | bool (t : TypeId) (ht : P.underlying t = some .bool) (b : Bool) : TyT P t [.lit (.bool b)]
  | int (t : TypeId) (k : IntKind) (ht : P.underlying t = some (.int k)) (z : Int) (hw : (Lit.int k z).wf = true) : TyT P t [.lit (.int k z)]
  | str (t : TypeId) (ht : P.underlying t = some .string) (s : ByteArray) (hs : s.size ≤ maxLen) : TyT P t [.lit (.string s)]
  | slice (t e : TypeId) (ht : P.underlying t = some (.slice e)) (L : List (List Tree)) (hl : L.length ≤ maxLen) (h : ∀ es, es ∈ L → TyT P e es) : TyT P t [.sl L]
  | struct (t : TypeId) (fs : Array Field) (ht : P.underlying t = some (.struct fs)) (ts : List Tree) (hl : ts.length = P.cellsOf t)
      (h : ∀ (i : Nat) (f : Field), fs[i]? = some f → TyT P f.type ((ts.drop f.offset).take (P.cellsOf f.type))) : TyT P t ts
  | array (t e n : Nat) (ht : P.underlying t = some (.array n e)) (ts : List Tree) (hl : ts.length = P.cellsOf t)
      (h : ∀ (i : Nat), i < n → TyT P e ((ts.drop (i * P.cellsOf e)).take (P.cellsOf e))) : TyT P t ts
  | other (t : TypeId) (d : TypeDesc) (ht : P.underlying t = some d) (ho : otherD d = true) (v : Value) : TyT P t [.lit v]

section
variable {P : Program} {t : TypeId} {ts : List Tree}
theorem TyT.inv_bool (ht : P.underlying t = some .bool) (h : TyT P t ts) : ∃ b, ts = [.lit (.bool b)] := by
  cases h with
  | bool _ _ b => exact ⟨b, rfl⟩
  | other _ d h1 ho => rw [ht] at h1; injection h1 with h1; subst h1; cases ho
  | _ => simp_all
theorem TyT.inv_int {k : IntKind} (ht : P.underlying t = some (.int k)) (h : TyT P t ts) : ∃ z, ts = [.lit (.int k z)] ∧ (Lit.int k z).wf = true := by
  cases h with
  | int _ k' h1 z hw => rw [ht] at h1; injection h1 with h1; injection h1 with h1; subst h1; exact ⟨z, rfl, hw⟩
  | other _ d h1 ho => rw [ht] at h1; injection h1 with h1; subst h1; cases ho
  | _ => simp_all
theorem TyT.inv_str (ht : P.underlying t = some .string) (h : TyT P t ts) : ∃ s : ByteArray, ts = [.lit (.string s)] ∧ s.size ≤ maxLen := by
  cases h with
  | str _ _ s hs => exact ⟨s, rfl, hs⟩
  | other _ d h1 ho => rw [ht] at h1; injection h1 with h1; subst h1; cases ho
  | _ => simp_all
theorem TyT.inv_slice {e : TypeId} (ht : P.underlying t = some (.slice e)) (h : TyT P t ts) : ∃ L, ts = [.sl L] ∧ L.length ≤ maxLen ∧ ∀ es, es ∈ L → TyT P e es := by
  cases h with
  | slice _ e' h1 L hl h => rw [ht] at h1; injection h1 with h1; injection h1 with h1; subst h1; exact ⟨L, rfl, hl, h⟩
  | other _ d h1 ho => rw [ht] at h1; injection h1 with h1; subst h1; cases ho
  | _ => simp_all
theorem TyT.inv_struct {fs : Array Field} (ht : P.underlying t = some (.struct fs)) (h : TyT P t ts) : ts.length = P.cellsOf t ∧ ∀ (i : Nat) (f : Field), fs[i]? = some f → TyT P f.type ((ts.drop f.offset).take (P.cellsOf f.type)) := by
  cases h with
  | struct _ fs' h1 _ hl h => rw [ht] at h1; injection h1 with h1; injection h1 with h1; subst h1; exact ⟨hl, h⟩
  | other _ d h1 ho => rw [ht] at h1; injection h1 with h1; subst h1; cases ho
  | _ => simp_all
theorem TyT.inv_array {n e : Nat} (ht : P.underlying t = some (.array n e)) (h : TyT P t ts) : ts.length = P.cellsOf t ∧ ∀ (i : Nat), i < n → TyT P e ((ts.drop (i * P.cellsOf e)).take (P.cellsOf e)) := by
  cases h with
  | array _ e' n' h1 _ hl h => rw [ht] at h1; injection h1 with h1; injection h1 with h1 h2; subst h1; subst h2; exact ⟨hl, h⟩
  | other _ d h1 ho => rw [ht] at h1; injection h1 with h1; subst h1; cases ho
  | _ => simp_all
end

theorem RepTL.append {w : World} {ok : Nat → Prop} {vs us : List Value} {ts ss : List Tree} (h : RepTL w ok vs ts) (h' : RepTL w ok us ss) : RepTL w ok (vs ++ us) (ts ++ ss) := by
  refine ⟨by simp [h.1, h'.1], fun i v t h1 h2 => ?_⟩
  rw [List.getElem?_append] at h1 h2
  by_cases hi : i < vs.length
  · rw [if_pos hi] at h1
    rw [if_pos (by rw [← h.1]; exact hi)] at h2
    exact h.2 i v t h1 h2
  · rw [if_neg hi] at h1
    rw [if_neg (by rw [← h.1]; exact hi), ← h.1] at h2
    exact h'.2 _ v t h1 h2

/-- the fields lie one behind the other -/
def offs (P : Program) : List Field → Nat → Prop
  | [], _ => True
  | f :: fs, o => f.offset = o ∧ offs P fs (o + P.cellsOf f.type)
def sumC (P : Program) (fs : List Field) : Nat := (fs.map fun f => P.cellsOf f.type).sum

theorem fields_rep {P : Program} {w : World} {cs : List Value} : ∀ (fs : List Field) (o : Nat), offs P fs o → cs.length = o + sumC P fs →
    (∀ f, f ∈ fs → ∃ ts, RepTL w (fun _ => True) ((cs.drop f.offset).take (P.cellsOf f.type)) ts ∧ TyT P f.type ts) →
    ∃ ts, RepTL w (fun _ => True) (cs.drop o) ts ∧ ∀ f, f ∈ fs → o ≤ f.offset ∧ TyT P f.type ((ts.drop (f.offset - o)).take (P.cellsOf f.type))
  | [], o, _, hl, _ => ⟨[], ⟨by simp [sumC] at hl ⊢; omega, fun i v t _ h => by simp at h⟩, fun f hf => by simp at hf⟩
  | f :: fs, o, ho, hl, h => by
    obtain ⟨h1, h2⟩ := ho
    obtain ⟨tf, g1, g2⟩ := h f (by simp)
    have hs : sumC P (f :: fs) = P.cellsOf f.type + sumC P fs := by simp [sumC]
    obtain ⟨ts, k1, k2⟩ := fields_rep fs (o + P.cellsOf f.type) h2 (by rw [hs] at hl; omega) (fun f' hf' => h f' (by simp [hf']))
    have hlen : tf.length = P.cellsOf f.type := by
      rw [← g1.1, h1]
      simp
      omega
    rw [h1] at g1
    refine ⟨tf ++ ts, ?_, fun f' hf' => ?_⟩
    · have := g1.append k1
      rw [← List.drop_drop, List.take_append_drop] at this
      exact this
    · rcases List.mem_cons.1 hf' with rfl | hf'
      · refine ⟨by omega, ?_⟩
        rw [h1, Nat.sub_self, List.drop_zero, ← hlen, List.take_left]
        exact g2
      · obtain ⟨q1, q2⟩ := k2 f' hf'
        refine ⟨by omega, ?_⟩
        rw [show f'.offset - o = tf.length + (f'.offset - (o + P.cellsOf f.type)) by omega, ← List.drop_drop, List.drop_left]
        exact q2

theorem offs_of {P : Program} (all : List Field) : ∀ (fs pre : List Field), pre ++ fs = all → (∀ (j : Nat) (f : Field), all[j]? = some f → f.offset = ((all.take j).map fun f => P.cellsOf f.type).sum) → offs P fs (sumC P pre)
  | [], _, _, _ => trivial
  | f :: fs, pre, e, h => by
    have hj : all[pre.length]? = some f := by rw [← e]; simp
    refine ⟨?_, ?_⟩
    · rw [h _ f hj, ← e]; simp [sumC]
    · have := offs_of all fs (pre ++ [f]) (by simpa using e) h
      have hs : sumC P (pre ++ [f]) = sumC P pre + P.cellsOf f.type := by simp [sumC]
      rw [hs] at this
      exact this

theorem elems_rep {P : Program} {w : World} {cs : List Value} {e c : Nat} : ∀ (n o : Nat), cs.length = (o + n) * c →
    (∀ i, i < n → ∃ ts, RepTL w (fun _ => True) ((cs.drop ((o + i) * c)).take c) ts ∧ TyT P e ts) →
    ∃ ts, RepTL w (fun _ => True) (cs.drop (o * c)) ts ∧ ∀ i, i < n → TyT P e ((ts.drop (i * c)).take c)
  | 0, o, hl, _ => ⟨[], ⟨by simp at hl ⊢; omega, fun i v t _ h => by simp at h⟩, fun i hi => by omega⟩
  | n + 1, o, hl, h => by
    obtain ⟨tf, g1, g2⟩ := h 0 (by omega)
    obtain ⟨ts, k1, k2⟩ := elems_rep n (o + 1) (by rw [hl]; congr 1; omega) (fun i hi => by
      have := h (i + 1) (by omega)
      rw [show o + (i + 1) = o + 1 + i by omega] at this
      exact this)
    rw [Nat.add_zero] at g1
    have hle : (o + 1) * c ≤ cs.length := by rw [hl]; exact Nat.mul_le_mul_right _ (by omega)
    have hoc : (o + 1) * c = o * c + c := by rw [Nat.add_mul, Nat.one_mul]
    have hlen : tf.length = c := by rw [← g1.1]; simp; omega
    refine ⟨tf ++ ts, ?_, fun i hi => ?_⟩
    · have := g1.append k1
      rw [hoc, ← List.drop_drop, List.take_append_drop] at this
      exact this
    · match i with
      | 0 => rw [Nat.zero_mul, List.drop_zero, ← hlen, List.take_left]; exact g2
      | i + 1 =>
        rw [show (i + 1) * c = tf.length + i * c by rw [Nat.add_mul, Nat.one_mul, hlen]; omega, ← List.drop_drop, List.drop_left]
        exact k2 i (by omega)

theorem rowFine_of {P : Program} (hl : laidOutB P = true) {t : TypeId} (hv : isVar P t = true) : rowFine P t = true := by
  unfold laidOutB at hl
  simp only [Bool.and_eq_true] at hl
  have ht : t < P.types.size := by
    unfold isVar at hv
    simp only [Bool.and_eq_true, decide_eq_true_eq] at hv
    exact hv.1
  exact List.all_eq_true.1 hl.1.1 t (List.mem_range.2 ht)

theorem trod_rep {H : Type} {enc : TypeId × Value → H} {P : Program} {w : World} {base : Nat} {spare : Nat → Bool} {held : Bool} (hlay : laidOutB P = true) :
    ∀ (fuel : Nat) (t : TypeId) (cs : List Value) (x : DataW H × List MemPlace), isVar P t = true → DataW.trod enc P w base spare held fuel t cs = some x → ∃ ts, RepTL w (fun _ => True) cs ts ∧ TyT P t ts := by
  intro fuel
  induction fuel with
  | zero => intro t cs x _ h; simp [DataW.trod] at h
  | succ fuel ih =>
    intro t cs x hv h
    have hfine := rowFine_of hlay hv
    unfold rowFine at hfine
    rw [hv] at hfine
    simp only [Bool.not_true, Bool.false_or] at hfine
    have one : ∀ v : Value, RepTL w (fun _ => True) [v] [.lit v] := fun v => ⟨rfl, fun i v' t' h1 h2 => by
      match i, h1, h2 with
      | 0, h1, h2 => simp at h1 h2; subst h1; subst h2; exact .lit _
      | i + 1, h1, _ => simp at h1⟩
    cases hd : P.underlying t with
    | none => unfold isVar at hv; rw [hd] at hv; simp [kindOk] at hv
    | some d =>
      rw [hd] at hfine
      have oth : otherD d = true → ∃ ts, RepTL w (fun _ => True) cs ts ∧ TyT P t ts := by
        intro ho
        rcases cs with _ | ⟨v, _ | ⟨v2, rest⟩⟩
        · cases d <;> simp [DataW.trod, hd, otherD] at h ho
        · exact ⟨[.lit v], one v, .other t d hd ho v⟩
        · cases d <;> simp [DataW.trod, hd, otherD] at h ho
      cases d with
      | bool =>
        obtain ⟨b, rfl, _⟩ := DataW.trod_bool hd h
        exact ⟨_, one _, .bool t hd b⟩
      | int k =>
        obtain ⟨n, rfl, _, hw⟩ := DataW.trod_int hd h
        exact ⟨_, one _, .int t k hd n hw⟩
      | string =>
        obtain ⟨s, rfl, _, hs⟩ := DataW.trod_string hd h
        exact ⟨_, one _, .str t hd s hs⟩
      | slice e =>
        simp only [Bool.and_eq_true] at hfine
        rcases DataW.trod_slice hd h with ⟨rfl, _⟩ | ⟨a, len, cap, elems, rest, n, hn, rfl, _, _, hl, hm, hlen, hel, _⟩
        · refine ⟨[.sl []], ⟨rfl, fun i v t h1 h2 => ?_⟩, .slice t e hd [] (Nat.zero_le _) (fun es he => by simp at he)⟩
          match i, h1, h2 with
          | 0, h1, h2 => simp at h1 h2; subst h1; subst h2; exact .sl none 0 0 0 [] (fun _ _ => undef) rfl (Nat.le_refl _) (Nat.zero_le _) (fun es he => by simp at he) (fun i j es t h1 => by simp at h1) (fun i j es t h1 => by simp at h1)
          | i + 1, h1, _ => simp at h1
        · have hn' : n = fuel := by omega
          subst hn'
          have H : ∀ i, i < len → ∃ p : List Value × List Tree, w.cells? base (a.add (i * P.cellsOf e)) (P.cellsOf e) = some p.1 ∧ RepTL w (fun _ => True) p.1 p.2 ∧ TyT P e p.2 := by
            intro i hi
            have h1 := hel i hi
            rw [List.getElem?_eq_getElem (by omega)] at h1
            cases hc : w.cells? base (a.add (i * P.cellsOf e)) (P.cellsOf e) with
            | none => rw [hc] at h1; cases h1
            | some cs' =>
              rw [hc] at h1
              obtain ⟨ts, r1, r2⟩ := ih e cs' _ hfine.1 h1
              exact ⟨(cs', ts), rfl, r1, r2⟩
          let F : Nat → List Value × List Tree := fun i => if hi : i < len then Classical.choose (H i hi) else ([], [])
          have hF : ∀ i, i < len → w.cells? base (a.add (i * P.cellsOf e)) (P.cellsOf e) = some (F i).1 ∧ RepTL w (fun _ => True) (F i).1 (F i).2 ∧ TyT P e (F i).2 := fun i hi => by
            have := Classical.choose_spec (H i hi)
            simp only [F, dif_pos hi]
            exact this
          have hget : ∀ (i : Nat) (es : List Tree), ((List.range len).map fun i => (F i).2)[i]? = some es → i < len ∧ es = (F i).2 := fun i es he => by
            rw [List.getElem?_map] at he
            by_cases hi : i < len
            · rw [List.getElem?_range hi] at he
              simp at he
              exact ⟨hi, he.symm⟩
            · rw [List.getElem?_eq_none (by simp; omega)] at he; cases he
          refine ⟨[.sl ((List.range len).map fun i => (F i).2)], ⟨rfl, fun i v t h1 h2 => ?_⟩, .slice t e hd _ (by simp; omega) (fun es he => ?_)⟩
          · match i, h1, h2 with
            | 0, h1, h2 =>
              simp at h1 h2
              subst h1; subst h2
              refine .sl (some a) len cap (P.cellsOf e) _ (fun i j => (F i).1.getD j undef) (by simp) hl hm (fun es he => ?_) (fun i j es t h1 h2 => ?_) (fun i j es t h1 h2 => ?_)
              · obtain ⟨i, hi, rfl⟩ := List.mem_map.1 he
                have hi' := List.mem_range.1 hi
                obtain ⟨q1, q2, _⟩ := hF i hi'
                rw [← q2.1]
                exact (World.cells?_some q1).2.1
              · obtain ⟨hi, rfl⟩ := hget i es h1
                obtain ⟨q1, q2, _⟩ := hF i hi
                obtain ⟨_, q3, q4⟩ := World.cells?_some q1
                have hj : j < (F i).1.length := by rw [q2.1]; exact (List.getElem?_eq_some_iff.1 h2).1
                have hcell := q4 j (by omega)
                rw [List.getElem?_eq_getElem hj] at hcell
                have hsp : a.spot = none := by
                  obtain ⟨p1, p2, _⟩ := hF 0 (by omega)
                  obtain ⟨_, p3, p4⟩ := World.cells?_some p1
                  have hc0 := p4 0 (by omega)
                  rw [List.getElem?_eq_getElem (by omega)] at hc0
                  have := World.cell?_spot hc0
                  simpa [Addr.add] using this
                refine ⟨a, rfl, hsp, trivial, ?_⟩
                obtain ⟨b, o, sp⟩ := a
                simp only at hsp
                subst hsp
                rw [add_none, add_none, Nat.add_assoc] at hcell
                rw [hcell]
                simp [List.getD, List.getElem?_eq_getElem hj]
              · obtain ⟨hi, rfl⟩ := hget i es h1
                obtain ⟨q1, q2, _⟩ := hF i hi
                have hj : j < (F i).1.length := by rw [q2.1]; exact (List.getElem?_eq_some_iff.1 h2).1
                exact q2.2 j _ t (by simp [List.getD, List.getElem?_eq_getElem hj]) h2
            | i + 1, h1, _ => simp at h1
          · obtain ⟨i, hi, rfl⟩ := List.mem_map.1 he
            exact (hF i (List.mem_range.1 hi)).2.2
      | struct fs =>
        simp only [Bool.and_eq_true, beq_iff_eq] at hfine
        obtain ⟨⟨hf1, hf2⟩, hf3⟩ := hfine
        obtain ⟨xs, n, hn, _, hlen, _, hg⟩ := DataW.trod_struct hd h
        have hn' : n = fuel := by omega
        subst hn'
        have hoff : offs P fs.toList 0 := offs_of fs.toList fs.toList [] rfl (fun j f hj => by
          have hjl : j < fs.toList.length := (List.getElem?_eq_some_iff.1 hj).1
          have := List.all_eq_true.1 hf3 j (List.mem_range.2 hjl)
          rw [hj] at this
          simpa using this)
        obtain ⟨ts, k1, k2⟩ := fields_rep (P := P) (w := w) (cs := cs) fs.toList 0 hoff (by rw [hlen, hf2]; simp [sumC]) (fun f hf => by
          obtain ⟨i, hi, hfi⟩ := List.mem_iff_getElem.1 hf
          have hgi := hg i f (by rw [← hfi]; simp)
          have hxi : ∃ y, xs[i]? = some y := by
            cases hx : xs[i]? with
            | some y => exact ⟨y, rfl⟩
            | none => 
              have hxl : xs.length = fs.size := by assumption
              rw [List.getElem?_eq_none_iff] at hx
              simp at hi
              omega
          obtain ⟨y, hy⟩ := hxi
          rw [hy] at hgi
          exact ih f.type _ y (List.all_eq_true.1 hf1 f hf) hgi)
        rw [List.drop_zero] at k1
        refine ⟨ts, k1, .struct t fs hd ts (by rw [← k1.1]; exact hlen) (fun i f hf => ?_)⟩
        have := (k2 f (Array.mem_toList_iff.2 (Array.mem_of_getElem? hf))).2
        simpa using this
      | array n e =>
        simp only [Bool.and_eq_true, beq_iff_eq] at hfine
        obtain ⟨xs, m, hm, _, hlen, hxl, hg⟩ := DataW.trod_array hd h
        have hm' : m = fuel := by omega
        subst hm'
        obtain ⟨ts, k1, k2⟩ := elems_rep (P := P) (w := w) (cs := cs) (e := e) (c := P.cellsOf e) n 0 (by rw [hlen, hfine.2, Nat.zero_add]) (fun i hi => by
          have hgi := hg i hi
          rw [List.getElem?_eq_getElem (by omega)] at hgi
          rw [Nat.zero_add]
          exact ih e _ _ hfine.1 hgi)
        rw [Nat.zero_mul, List.drop_zero] at k1
        exact ⟨ts, k1, .array t e n hd ts (by rw [← k1.1]; exact hlen) k2⟩
      | _ => exact oth rfl
end Go.Am
