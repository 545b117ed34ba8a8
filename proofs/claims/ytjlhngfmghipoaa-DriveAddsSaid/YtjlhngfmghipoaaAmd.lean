/- The abstract machine, part 13: a law's arguments, and its call, out of the contract of its function. No condition. -/
import Derived.Test.YtjlhngfmghipoaaAmc
namespace Go.Am
open Go.RowKit Go.ChangeShapes Go.WideShapes

def aggB (P : Program) (t : TypeId) : Bool := match P.underlying t with | some (.struct _) => true | some (.array _ _) => true | _ => false
/-- a value of a type, as an argument -/
def TyV (P : Program) (t : TypeId) (av : AV) : Prop :=
  ∃ cells, TyT P t cells ∧ ((aggB P t = true ∧ av = .agg (cells.map (ofTree false))) ∨ (aggB P t = false ∧ ∃ c, cells = [c] ∧ av = ofTree false c))
def TyVs (P : Program) : List TypeId → List AV → Prop
  | [], [] => True
  | t :: ts, a :: as => TyV P t a ∧ TyVs P ts as
  | _, _ => False

theorem RepP_ofTree {w : World} {ok : Nat → Prop} {fl : Bool} {v : Value} {t : Tree} (r : RepT w ok v t) : RepP w ok v (ofTree fl t) := by
  cases t with
  | lit v' => cases r; exact .lit _
  | sl L => exact .sl fl L v r

theorem arg_rep {H : Type} {enc : TypeId × Value → H} {P : Program} {w : World} {r : Reach} {b0 base : Nat} {spare : Nat → Bool} {held : Bool} {t : TypeId} {v : Value} {d : DataW H} {p : List MemPlace}
    (hlay : laidOutB P = true) (hv : isVar P t = true) (hok : Value.okWide P w r b0 t v) (h : DataW.Trod enc P w base spare held t v d p) : ∃ av, RepP w (fun _ => True) v av ∧ TyV P t av := by
  obtain ⟨fuel, hf⟩ := h
  obtain ⟨ts, h1, h2⟩ := trod_rep hlay fuel t _ _ hv hf
  cases ha : aggB P t with
  | true =>
    have hagg : ∃ cs : Array Value, v = .agg cs := by
      unfold aggB at ha
      unfold Value.okWide at hok
      split at ha
      · rename_i fs hfs; rw [hfs] at hok; exact ⟨hok.choose, hok.choose_spec.1⟩
      · rename_i n e hfs; rw [hfs] at hok; exact ⟨hok.choose, hok.choose_spec.1⟩
      · cases ha
    obtain ⟨cs, rfl⟩ := hagg
    have h1 : RepTL w (fun _ => True) cs.toList ts := h1
    refine ⟨.agg (ts.map (ofTree false)), .agg cs.toList _ (by rw [h1.1]; simp) (fun i v t e1 e2 => ?_), ts, h2, .inl ⟨ha, rfl⟩⟩
    rw [List.getElem?_map] at e2
    cases h3 : ts[i]? with
    | none => rw [h3] at e2; cases e2
    | some t' =>
      rw [h3] at e2
      simp at e2
      subst e2
      exact RepP_ofTree (h1.2 i v t' e1 h3)
  | false =>
    have hone : v.oneCell' = true := by
      unfold aggB at ha
      unfold Value.okWide at hok
      split at hok
      · rename_i fs hfs; rw [hfs] at ha; cases ha
      · rename_i n e hfs; rw [hfs] at ha; cases ha
      · unfold Cell.okWide at hok
        cases v <;> first | rfl | (exfalso; revert hok; cases hu : P.underlying t with | none => simp [Cell.ok, hu] | some d => cases d <;> simp [Cell.ok, hu])
    rw [cells_of_one hone] at h1
    match ts, h1.1 with
    | [c], _ => exact ⟨ofTree false c, RepP_ofTree (h1.2 0 v c rfl rfl), [c], h2, .inr ⟨ha, c, rfl, rfl⟩⟩

theorem args_rep {H : Type} {enc : TypeId × Value → H} {P : Program} {w : World} {r : Reach} {b0 base : Nat} {spare : Nat → Bool} {held : Bool} (hlay : laidOutB P = true) :
    ∀ (ts : List TypeId) (vs : List Value) (ds : List (DataW H)) (p : List MemPlace), ts.all (isVar P) = true → (∀ (j : Nat) t v, ts[j]? = some t → vs[j]? = some v → Value.okWide P w r b0 t v) →
    DataW.TrodAll enc P w base spare held ts vs ds p → ∃ avs, RepPL w (fun _ => True) vs avs ∧ TyVs P ts avs
  | [], [], [], _, _, _, _ => ⟨[], ⟨rfl, fun i v t h1 => by simp at h1⟩, trivial⟩
  | [], _ :: _, _, _, _, _, h => by simp [DataW.TrodAll] at h
  | [], [], _ :: _, _, _, _, h => by simp [DataW.TrodAll] at h
  | t :: ts, vs, ds, p, hv, hok, h => by
    obtain ⟨v, vs', d, ds', p1, q, rfl, rfl, _, h1, h2⟩ := trodAll_cons h
    simp only [List.all_cons, Bool.and_eq_true] at hv
    obtain ⟨av, g1, g2⟩ := arg_rep hlay hv.1 (hok 0 t v rfl rfl) h1
    obtain ⟨avs, k1, k2⟩ := args_rep hlay ts vs' ds' q hv.2 (fun j t v a b => hok (j + 1) t v (by simpa using a) (by simpa using b)) h2
    refine ⟨av :: avs, ⟨by simp [k1.1], fun i v' t' e1 e2 => ?_⟩, g2, k2⟩
    match i, e1, e2 with
    | 0, e1, e2 => simp at e1 e2; subst e1; subst e2; exact g1
    | i + 1, e1, e2 => exact k1.2 i v' t' (by simpa using e1) (by simpa using e2)

theorem trodAll_below {H : Type} {enc : TypeId × Value → H} {P : Program} {W W' : World} (hl : laidOutB P = true) (hb : Below W.heap.size W W') :
    ∀ (ts : List TypeId) (vs : List Value) (ds : List (DataW H)) (p : List MemPlace), ts.all (fun t => P.readableRec t && decide (t < P.types.size)) = true →
    DataW.TrodAll enc P W 0 (fun _ => true) true ts vs ds p → DataW.TrodAll enc P W' 0 (fun b => decide (b < W.heap.size)) true ts vs ds p
  | [], [], [], _, _, h => h
  | [], _ :: _, _, _, _, h => by simp [DataW.TrodAll] at h
  | [], [], _ :: _, _, _, h => by simp [DataW.TrodAll] at h
  | t :: ts, vs, ds, p, hr, h => by
    obtain ⟨v, vs', d, ds', p1, q, rfl, rfl, rfl, h1, h2⟩ := trodAll_cons h
    simp only [List.all_cons, Bool.and_eq_true, decide_eq_true_eq] at hr
    refine ⟨p1, q, Below.trod hl hr.1.1 hr.1.2 h1 hb (by obtain ⟨m, hm⟩ := h1; exact DataW.trod_lt m _ _ _ hm), trodAll_below hl hb ts vs' ds' q (by simpa using hr.2) h2, rfl⟩

/-- the call of a law -/
theorem law_calls {H : Type} {enc : TypeId × Value → H} {P : Program} {W : World} {f : FuncId} {base : Nat} {ts : List TypeId} {args : Array Value} {ds : List (DataW H)} {p : List MemPlace} (hlay : laidOutB P = true) (hv : ts.all (isVar P) = true)
    (hr : ts.all (fun t => P.readableRec t && decide (t < P.types.size)) = true) (hok : ∀ (j : Nat) t v, ts[j]? = some t → args[j]? = some v → Value.okWide P W .any base t v)
    (hA : DataW.TrodAll enc P W 0 (fun _ => true) true ts args.toList ds p) (hden : ∀ avs, TyVs P ts avs → Den P f avs (Bo true)) :
    Calls P f args W fun e W' => e = .returned (.bool true) ∧ Below W.heap.size W W' ∧ DataW.TrodAll enc P W' 0 (fun b => decide (b < W.heap.size)) true ts args.toList ds p := by
  obtain ⟨avs, h1, h2⟩ := args_rep hlay ts args.toList ds p hv (fun j t v a b => hok j t v a (by simpa using b)) hA
  refine ((hden avs h2).calls W args.toList h1).mono fun e W' ⟨v, he, hv, hb⟩ => ?_
  cases hv
  exact ⟨he, hb, trodAll_below hlay hb ts _ ds p hr hA⟩
end Go.Am
