/- The abstract machine, third state, part 12: calls: with boxes, and of functions on plain data by their contract. No condition. -/
import Derived.Test.YtibcoiabdnbdjaaDoorCmb
namespace Go.Cm
open Go.RowKit
set_option linter.unusedSectionVars false
variable [Sig]

theorem exec_call {P : Program} {o : Oper} {c : Call} {x : Operand} {f : FuncId} {caps : List Value} (ho : o.op = .call c) (hc : c.callee = .value x) (hf : Callable P f) (a : Act) (w : World) (hx : a.eval x = .func (.func f) #[] ⟨caps⟩) :
    (execOp a.eval o).run P w = .ok (.enter f ⟨c.args.toList.map a.eval ++ caps⟩) w := by
  obtain ⟨fn, h1, h2, h3⟩ := hf
  cases hb : fn.body with
  | none => rw [hb] at h2; cases h2
  | some body =>
    have h3' : ¬ fn.name = "runtime.NumGoroutine" := by simpa using h3
    have he : (⟨c.args.toList.map a.eval ++ caps⟩ : Array Value) = c.args.map a.eval ++ (⟨caps⟩ : Array Value) := by apply Array.ext'; simp
    rw [he]
    simp [execOp, ho, resolve, hc, hx, Deferred.ofValue, invoke, callFunc, h1, h3', hb]

theorem RepL.args {w : World} {ρ : Env} {bx : Nat → Box} {a : Act} {ev : Operand → AV} {c : Call} (hr : ∀ x, x ∈ c.operands → Rep w ρ bx (a.eval x) (ev x)) : RepL w ρ bx (c.args.toList.map a.eval) (c.args.toList.map ev) :=
  ⟨by simp, fun i v t h1 h2 => by
    rw [List.getElem?_map] at h1 h2
    cases hi : c.args.toList[i]? with
    | none => rw [hi] at h1; cases h1
    | some x =>
      rw [hi] at h1 h2
      simp at h1 h2
      subst h1; subst h2
      refine hr x ?_
      simp only [Call.operands, Array.mem_append]
      exact .inr (by have := List.mem_of_getElem? hi; simpa using this)⟩
theorem RepL.append {w : World} {ρ : Env} {bx : Nat → Box} {vs us : List Value} {ts ss : List AV} (h : RepL w ρ bx vs ts) (h' : RepL w ρ bx us ss) : RepL w ρ bx (vs ++ us) (ts ++ ss) :=
  ⟨by simp [h.1, h'.1], fun i v t h1 h2 => by
    rw [List.getElem?_append] at h1 h2
    rw [h.1] at h1
    split at h1
    · rename_i hlt; rw [if_pos hlt] at h2; exact h.2 i v t h1 h2
    · rename_i hlt; rw [if_neg hlt] at h2; exact h'.2 _ v t h1 h2⟩

theorem appE_map (bo : Nat → Box) : ∀ (M : List Nat) (bx : Nat → Box), appE bx (M.map fun k => (k, bo k)) = joinK M bx bo
  | [], bx => by funext k; simp [appE, joinK]
  | m :: M, bx => by
    simp only [List.map_cons, appE]
    rw [appE_map bo M]
    funext k
    simp only [joinK, List.mem_cons, setBox]
    by_cases h1 : k ∈ M
    · simp [h1]
    · by_cases h2 : k = m
      · subst h2; simp
      · simp [h1, h2]

/-- a call of a method that has been bound to its receiver -/
theorem exec_callB {P : Program} {o : Oper} {c : Call} {x : Operand} {f : FuncId} {fi : List Value} (ho : o.op = .call c) (hc : c.callee = .value x) (hf : Callable P f) (a : Act) (w : World) (hx : a.eval x = .func (.func f) ⟨fi⟩ #[]) :
    (execOp a.eval o).run P w = .ok (.enter f ⟨fi ++ c.args.toList.map a.eval⟩) w := by
  obtain ⟨fn, h1, h2, h3⟩ := hf
  cases hb : fn.body with
  | none => rw [hb] at h2; cases h2
  | some body =>
    have h3' : ¬ fn.name = "runtime.NumGoroutine" := by simpa using h3
    have he : (⟨fi ++ c.args.toList.map a.eval⟩ : Array Value) = (⟨fi⟩ : Array Value) ++ c.args.map a.eval := by apply Array.ext'; simp
    rw [he]
    simp [execOp, ho, resolve, hc, hx, Deferred.ofValue, invoke, callFunc, h1, h3', hb]
/-- an operation that calls f with these values -/
def CallsWith (P : Program) (o : Oper) (ev : Operand → AV) (f : FuncId) (L : List AV) : Prop :=
  Callable P f → ∀ (w : World) (ρ : Env) (bx : Nat → Box) (a : Act), (∀ y, y ∈ o.op.operands → Rep w ρ bx (a.eval y) (ev y)) → ∃ vs, (execOp a.eval o).run P w = .ok (.enter f ⟨vs⟩) w ∧ RepL w ρ bx vs L
theorem CallsWith.clo {P : Program} {o : Oper} {ev : Operand → AV} {c : Call} {x : Operand} {f : FuncId} {caps : List AV} (ho : o.op = .call c) (hc : c.callee = .value x) (hx : ev x = .clo f caps) : CallsWith P o ev f (c.args.toList.map ev ++ caps) := by
  intro hf w ρ bx a hr
  have hr' : ∀ y, y ∈ c.operands → Rep w ρ bx (a.eval y) (ev y) := fun y hy => hr y (by rw [ho]; exact hy)
  have hxr := hr' x (by simp [Call.operands, hc])
  rw [hx] at hxr
  obtain ⟨cv, hcv, hcr⟩ := hxr.inv_clo
  exact ⟨_, exec_call ho hc hf a w hcv, (RepL.args hr').append hcr⟩
theorem CallsWith.bnd {P : Program} {o : Oper} {ev : Operand → AV} {c : Call} {x : Operand} {f : FuncId} {fi : List AV} (ho : o.op = .call c) (hc : c.callee = .value x) (hx : ev x = .bnd f fi) : CallsWith P o ev f (fi ++ c.args.toList.map ev) := by
  intro hf w ρ bx a hr
  have hr' : ∀ y, y ∈ c.operands → Rep w ρ bx (a.eval y) (ev y) := fun y hy => hr y (by rw [ho]; exact hy)
  have hxr := hr' x (by simp [Call.operands, hc])
  rw [hx] at hxr
  obtain ⟨cv, hcv, hcr⟩ := hxr.inv_bnd
  exact ⟨_, exec_callB ho hc hf a w hcv, hcr.append (RepL.args hr')⟩
/-- a call with boxes -/
theorem callB_sound {P : Program} {o : Oper} {ev : Operand → AV} {bx : Bxs} {f : FuncId} {L : List AV} {K N : List Nat} {r : AV} {bo : Nat → Box} (hex : CallsWith P o ev f L)
    (hd : DenB P f (onlyK K (bget bx)) L r bo) (hargs : L.all (inK K 4) = true) (hbi : K.all (fun k => boxInK K (bget bx k)) = true)
    (hN : ∀ k, k ∈ N → k ∉ K) (hbo : (K ++ N).all (fun k => boxInK (K ++ N) (bo k)) = true) (hrr : inK (K ++ N) 4 r = true) : LocalOk P o ev bx r ((K ++ N).map fun k => (k, bo k)) K := by
  intro w ρ bx' a K' Q hag hnew hs hr hK
  obtain ⟨av, hrun, hall⟩ := hex hd.can w ρ bx' a hr
  unfold Oper.wp
  rw [hrun]
  have hKeq : onlyK K (bget bx) = onlyK K bx' := by
    funext k
    unfold onlyK
    split
    · rename_i hk; rw [hag k hk]
    · rfl
  have hsK := hs.onlyK (K := K) (fun k hk => by rw [hag k hk]; exact List.all_eq_true.1 hbi k hk)
  have hallK : RepL w (envK K ρ bx') (onlyK K bx') av L :=
    RepL.move (ρ := ρ) (bx := bx') (ρ' := envK K ρ bx') (bx' := onlyK K bx') (fun h1 h2 => Rep.move (ρ := ρ) (bx := bx') (ρ' := envK K ρ bx') (bx' := onlyK K bx') (K := K) (fun j hj hm => ⟨by unfold onlyK; rw [if_pos hj]; exact hm, rfl, rfl⟩) (fun b _ hb => okS_envK hb) 4 h1 h2) hargs hall
  have hcalls := hd.calls w (envK K ρ bx') av (by rw [hKeq]; exact hsK) (by rw [hKeq]; exact hallK)
  refine hcalls.mono fun e w' ⟨v, ρc, he, hext, hso, hv⟩ => ?_
  subst he
  rw [hKeq] at hext
  have hNn : ∀ k, k ∈ N → bx' k = .nil := fun k hk => (hnew k (bo k) (List.mem_map.2 ⟨k, List.mem_append_right _ hk, rfl⟩)).resolve_left (hN k hk)
  obtain ⟨ρ', g1, g2, g3⟩ := frame_call hs hNn hext hso (fun k hk => List.all_eq_true.1 hbo k hk)
  exact hK v w' ρ' (by rw [appE_map]; exact g1) (by rw [appE_map]; exact g2) (by rw [appE_map]; exact g3 4 v r hrr hv)

/-! functions on plain data -/
def Fn : List Sig.TI → Type → Type
  | [], R => R
  | t :: ts, R => Sig.Car t → Fn ts R
def apF {R : Type} : (ts : List Sig.TI) → Fn ts R → List (List Tree) → Option R
  | [], f, [] => some f
  | t :: ts, f, c :: cs => match fits (Sig.shp t) c with
    | true => apF ts (f (Sig.dec t c)) cs
    | false => none
  | _, _, _ => none
def RessT : Sig.TI → List Sig.TI → Type
  | t, [] => Sig.Car t
  | t, t' :: ts => Sig.Car t × RessT t' ts
def Ress : List Sig.TI → Type
  | [] => Unit
  | t :: ts => RessT t ts
def encT : (t : Sig.TI) → (ts : List Sig.TI) → RessT t ts → List (List Tree)
  | t, [], x => [Sig.enc t x]
  | t, t' :: ts, x => Sig.enc t x.1 :: encT t' ts x.2
def encR : (ts : List Sig.TI) → Ress ts → List (List Tree)
  | [], _ => []
  | t :: ts, x => encT t ts x
structure Fun where
  pars : List Sig.TI
  ress : List Sig.TI
  own : List (List (Option TypeId))
  fn : Fn pars (Option (Ress ress))

def avT (t : Sig.TI) (as : List AV) : AV :=
  match Sig.isAgg t with
  | true => .agg as
  | false => match as with
    | [x] => x
    | _ => .dead
def argA : List Sig.TI → List (List Tree) → List AV
  | t :: ts, c :: cs => avT t (c.map ofTree) :: argA ts cs
  | _, _ => []
def resC : List (Option TypeId) → List Tree → Nat → List AV × List (Nat × Box)
  | _, [], _ => ([], [])
  | os, t :: ts, n => match os.headD none, t with
    | some et, .sl q => (.row n :: (resC os.tail ts (n + 1)).1, (n, .row false et q) :: (resC os.tail ts (n + 1)).2)
    | _, _ => (ofTree t :: (resC os.tail ts n).1, (resC os.tail ts n).2)
def resL : List Sig.TI → List (List (Option TypeId)) → List (List Tree) → Nat → List AV × List (Nat × Box)
  | t :: ts, os, c :: cs, n =>
    (avT t (resC (os.headD []) c n).1 :: (resL ts os.tail cs (n + (resC (os.headD []) c n).2.length)).1, (resC (os.headD []) c n).2 ++ (resL ts os.tail cs (n + (resC (os.headD []) c n).2.length)).2)
  | _, _, _, _ => ([], [])
def oneA : List AV → AV
  | [x] => x
  | xs => .tup xs
def nilB : Nat → Box := fun _ => .nil
/-- the contract of a function on plain data -/
structure DenF (P : Program) (f : FuncId) (F : Fun) : Prop where
  can : Callable P f
  den : ∀ (cs : List (List Tree)) (r : Ress F.ress), apF F.pars F.fn cs = some (some r) → ∀ n, DenB P f nilB (argA F.pars cs) (oneA (resL F.ress F.own (encR F.ress r) n).1) (appE nilB (resL F.ress F.own (encR F.ress r) n).2)

/-! arguments as cells -/
def cellsOf : List Sig.TI → List AV → Bxs → Option (List (List Tree) × List Nat)
  | [], [], _ => some ([], [])
  | t :: ts, a :: as, bx =>
    match (match Sig.isAgg t, a with
      | true, .agg cs => tTs bx (Sig.shp t) cs
      | true, _ => none
      | false, a => tTs bx (Sig.shp t) [a]) with
    | none => none
    | some (c, ks) => match cellsOf ts as bx with
      | none => none
      | some (cs, ks') => some (c :: cs, ks ++ ks')
  | _, _, _ => none

/-- a value that leads nowhere -/
def litA : Nat → AV → Bool
  | 0, _ => false
  | n + 1, t => match t with
    | .lit _ => true
    | .agg cs => cs.all (litA n)
    | .tup cs => cs.all (litA n)
    | .dead => true
    | _ => false
theorem Rep.lits {w w' : World} {ρ ρ' : Env} {bx bx' : Nat → Box} : ∀ (n : Nat) {v : Value} {t : AV}, litA n t = true → Rep w ρ bx v t → Rep w' ρ' bx' v t
  | 0, v, t, h, _ => by cases h
  | n + 1, v, t, h, r => by
    have hl : ∀ {vs : List Value} {ts : List AV}, ts.all (litA n) = true → (∀ (i : Nat) (v : Value) (t : AV), vs[i]? = some v → ts[i]? = some t → Rep w ρ bx v t) → ∀ (i : Nat) (v : Value) (t : AV), vs[i]? = some v → ts[i]? = some t → Rep w' ρ' bx' v t :=
      fun ht hr i v t h1 h2 => Rep.lits n (List.all_eq_true.1 ht t (List.mem_of_getElem? h2)) (hr i v t h1 h2)
    cases r with
    | lit v => exact .lit v
    | agg vs ts e hr => exact .agg vs ts e (hl h hr)
    | tup vs ts e hr => exact .tup vs ts e (hl h hr)
    | dead v => exact .dead v
    | _ => cases h

section
variable {w : World} {ρ ρc : Env} {bx : Bxs} {bx1 : Nat → Box}
/-- trees of a list of cells, as a callee without boxes sees them -/
theorem RepTL.plain (hok : ∀ b, b < w.heap.size → okS ρ bx1 b → okS ρc nilB b) {vs : List Value} {ts : List Tree} (h : RepTL w (okS ρ bx1) vs ts) : RepL w ρc nilB vs (ts.map ofTree) :=
  RepTL.map_ofTree (h.ext fun b hb hlt => ⟨rfl, hok b hlt hb⟩)
theorem avT_rep {t : Sig.TI} {vs : List Value} {as : List AV} {v : Value} {bx0 : Nat → Box} (hv : Sig.isAgg t = true ∧ v = .agg ⟨vs⟩ ∨ Sig.isAgg t = false ∧ vs = [v]) (h : RepL w ρ bx0 vs as) : Rep w ρ bx0 v (avT t as) := by
  unfold avT
  rcases hv with ⟨h1, rfl⟩ | ⟨h1, rfl⟩
  · rw [h1]; exact .agg vs as h.1 h.2
  · rw [h1]
    have hl := h.1
    match as, hl, h with
    | [x], _, h => exact h.2 0 v x rfl rfl
theorem cellsOf_sound (conv : ∀ (os : List (LK Sig.TI)) (as : List AV) (ts : List Tree) (ks : List Nat) (vs : List Value), tTs bx os as = some (ts, ks) → Frz bx ks bx1 → RepL w ρ bx1 vs as → RepL w ρc nilB vs (ts.map ofTree)) :
    ∀ (tys : List Sig.TI) (as : List AV) (cs : List (List Tree)) (ks : List Nat) (vs : List Value), cellsOf tys as bx = some (cs, ks) → Frz bx ks bx1 → RepL w ρ bx1 vs as → RepL w ρc nilB vs (argA tys cs)
  | [], [], cs, ks, vs, h, _, hr => by
    simp only [cellsOf, Option.some.injEq, Prod.mk.injEq] at h
    obtain ⟨rfl, rfl⟩ := h
    exact ⟨hr.1, fun i v t h1 h2 => by simp [argA] at h2⟩
  | [], _ :: _, cs, ks, vs, h, _, _ => by cases h
  | _ :: _, [], cs, ks, vs, h, _, _ => by cases h
  | t :: tys, a :: as, cs, ks, vs, h, hf, hr => by
    simp only [cellsOf] at h
    split at h
    · cases h
    · rename_i c k1 hc
      split at h
      · cases h
      · rename_i cs' k2 hcs
        simp only [Option.some.injEq, Prod.mk.injEq] at h
        obtain ⟨rfl, rfl⟩ := h
        cases vs with
        | nil => have := hr.1; simp at this
        | cons v vs =>
          have ih := cellsOf_sound conv tys as cs' k2 vs hcs (fun j hj => hf j (by simp [hj])) ⟨by have := hr.1; simpa using this, fun i v t h1 h2 => hr.2 (i + 1) v t (by simpa using h1) (by simpa using h2)⟩
          have h0 : Rep w ρc nilB v (avT t (c.map ofTree)) := by
            have hva := hr.2 0 v a rfl rfl
            have hf1 : Frz bx k1 bx1 := fun j hj => hf j (by simp [hj])
            split at hc
            · rename_i cs'' hag
              obtain ⟨us, rfl, hus⟩ := hva.inv_agg
              exact avT_rep (.inl ⟨hag, rfl⟩) (conv _ _ _ _ us hc hf1 hus)
            · cases hc
            · rename_i hag
              refine avT_rep (.inr ⟨hag, rfl⟩) (conv _ _ _ _ [v] hc hf1 ⟨rfl, fun i v' t' h1 h2 => ?_⟩)
              match i, h1, h2 with
              | 0, h1, h2 => simp at h1 h2; subst h1; subst h2; exact hva
              | i + 1, h1, _ => simp at h1
          refine ⟨by simp [argA, ih.1], fun i v' t' h1 h2 => ?_⟩
          match i, h1, h2 with
          | 0, h1, h2 => simp [argA] at h1 h2; subst h1; subst h2; exact h0
          | i + 1, h1, h2 => exact ih.2 i v' t' (by simpa using h1) (by simpa [argA] using h2)
end

/-- own rows are read without being frozen -/
theorem row_repT {w : World} {F : Nat → Prop} {e : Nat} {v : Value} {q : Row} {xs : List Value} {ok : Nat → Prop} (hown : ownsR w F e q.sz v q.n xs) (hrr : RowRep w ok xs q) : RepT w (fun _ => True) v (.sl q) := by
  obtain ⟨hl, hown⟩ := hown
  rcases hown with ⟨a, e1, e2⟩ | ⟨g, cap, cur, e1, hF, hh, hcap, hmax, hcs, htk⟩
  · rw [e1]; exact e0_repT a q e2
  · rw [e1]
    have hget : ∀ i j, i < q.n → j < q.sz → xs[i * q.sz + j]? = some (xs.getD (i * q.sz + j) undef) := fun i j h1 h2 => by
      have h3 : (i + 1) * q.sz ≤ q.n * q.sz := Nat.mul_le_mul_right _ h1
      have h4 : (i + 1) * q.sz = i * q.sz + q.sz := by rw [Nat.add_mul]; omega
      have : i * q.sz + j < xs.length := by omega
      simp [List.getD, List.getElem?_eq_getElem this]
    refine .sl (some ⟨g, 0, none⟩) q.n (cap + 1) q (fun i j => xs.getD (i * q.sz + j) undef) rfl hcap hmax (fun i j h1 h2 => hrr.one _ (List.mem_of_getElem? (hget i j h1 h2))) (fun i j h1 h2 => ?_) (fun i j t h1 h2 => ?_)
    · exact ⟨⟨g, 0, none⟩, rfl, rfl, trivial, by rw [Nat.zero_add]; exact cells_take hh htk (hget i j h1 h2)⟩
    · have hj : j < q.sz := by rw [← q.g_len i]; exact (List.getElem?_eq_some_iff.1 h2).1
      exact (hrr.rep i j t _ h1 h2 (hget i j h1 hj)).ext fun _ _ _ => ⟨rfl, trivial⟩
theorem tT_read {bx : Bxs} {o : LK Sig.TI} {a : AV} {t : Tree} {ks : List Nat} (h : tT bx o a = some (t, ks)) {w : World} {ρ : Env} {bx2 : Nat → Box} (hs : SimB w ρ bx2) (hf : ∀ k, k ∈ ks → bx2 k = bget bx k) {v : Value} (hr : Rep w ρ bx2 v a) : RepT w (fun _ => True) v t := by
  unfold tT at h
  split at h
  · simp only [Option.some.injEq, Prod.mk.injEq] at h
    obtain ⟨rfl, rfl⟩ := h
    rw [hr.inv_lit]; exact .lit _
  · simp only [Option.some.injEq, Prod.mk.injEq] at h
    obtain ⟨rfl, rfl⟩ := h
    exact hr.inv_sl.ext fun _ _ _ => ⟨rfl, trivial⟩
  · split at h
    · simp only [Option.some.injEq, Prod.mk.injEq] at h
      obtain ⟨rfl, rfl⟩ := h
      obtain ⟨A, rfl⟩ := hr.inv_e0
      exact e0_repT A _ rfl
    · cases h
  · rename_i k
    split at h
    · rename_i q hq
      simp only [Option.some.injEq, Prod.mk.injEq] at h
      obtain ⟨rfl, rfl⟩ := h
      have hsim := hs.box k
      rw [hf k (by simp)] at hsim
      obtain ⟨e, xs, h1, h2, _⟩ := hsim.rowOf hq
      rw [hr.inv_row.2]
      exact row_repT h1 h2
    · cases h
  · cases h
theorem tTs_read {bx : Bxs} {w : World} {ρ : Env} {bx2 : Nat → Box} (hs : SimB w ρ bx2) : ∀ (as : List AV) (os : List (LK Sig.TI)) (ts : List Tree) (ks : List Nat) (vs : List Value), tTs bx os as = some (ts, ks) → (∀ k, k ∈ ks → bx2 k = bget bx k) → RepL w ρ bx2 vs as → RepTL w (fun _ => True) vs ts
  | [], [], ts, ks, vs, h, _, hr => by
    simp only [tTs, Option.some.injEq, Prod.mk.injEq] at h
    obtain ⟨rfl, rfl⟩ := h
    exact ⟨hr.1, fun i v t h1 h2 => by simp at h2⟩
  | [], _ :: _, ts, ks, vs, h, _, hr => by cases h
  | _ :: _, [], ts, ks, vs, h, _, hr => by cases h
  | a :: as, o :: os, ts, ks, vs, h, hf, hr => by
    simp only [tTs] at h
    split at h
    · rename_i t k ts' ks' h1 h2
      simp only [Option.some.injEq, Prod.mk.injEq] at h
      obtain ⟨rfl, rfl⟩ := h
      cases vs with
      | nil => have := hr.1; simp at this
      | cons v vs =>
        have ih := tTs_read hs as os ts' ks' vs h2 (fun j hj => hf j (by simp [hj])) ⟨by have := hr.1; simpa using this, fun i v t a b => hr.2 (i + 1) v t (by simpa using a) (by simpa using b)⟩
        have h0 := tT_read h1 hs (fun j hj => hf j (by simp [hj])) (hr.2 0 v a rfl rfl)
        refine ⟨by simp [ih.1], fun i v' t' e1 e2 => ?_⟩
        match i, e1, e2 with
        | 0, e1, e2 => simp at e1 e2; subst e1; subst e2; exact h0
        | i + 1, e1, e2 => exact ih.2 i v' t' (by simpa using e1) (by simpa using e2)
    · cases h

/-- the keys of new boxes -/
def keys (e : List (Nat × Box)) : List Nat := e.map (·.1)
theorem appE_joinK : ∀ (e : List (Nat × Box)) (bx b0 : Nat → Box), joinK (keys e) bx (appE b0 e) = appE bx e
  | [], bx, b0 => by funext k; simp [joinK, keys, appE]
  | (j, b) :: e, bx, b0 => by
    simp only [appE, keys, List.map_cons]
    rw [← appE_joinK e (setBox bx j b) (setBox b0 j b)]
    funext k
    simp only [joinK, keys, List.mem_cons]
    by_cases h : k ∈ e.map (·.1)
    · simp [h]
    · by_cases h2 : k = j
      · subst h2
        have : ∀ b, (k, b) ∉ e := fun b hb => h (List.mem_map.2 ⟨(k, b), hb, rfl⟩)
        simp [h, setBox, appE_other e _ k this]
      · simp [h, h2, setBox]

/-- a call of a function on plain data, the rows among its arguments are frozen -/
theorem callF_sound {P : Program} {o : Oper} {ev : Operand → AV} {bx : Bxs} {c : Call} {x : Operand} {f : FuncId} {F : Fun} {cs : List (List Tree)} {ks0 ks : List Nat} {r : Ress F.ress} {n0 : Nat} (ho : o.op = .call c) (hc : c.callee = .value x) (hx : ev x = .clo f [])
    (hd : DenF P f F) (hcs : cellsOf F.pars (c.args.toList.map ev) bx = some (cs, ks0)) (hsub : ∀ k, k ∈ ks0 → k ∈ ks) (hr : apF F.pars F.fn cs = some (some r)) (hnd : nodupB ks = true)
    (hN : ∀ k, k ∈ keys (resL F.ress F.own (encR F.ress r) n0).2 → k ∉ ks) (hin : (keys (resL F.ress F.own (encR F.ress r) n0).2).all (fun k => boxInK (keys (resL F.ress F.own (encR F.ress r) n0).2) (appE nilB (resL F.ress F.own (encR F.ress r) n0).2 k)) = true)
    (hrr : inK (keys (resL F.ress F.own (encR F.ress r) n0).2) 4 (oneA (resL F.ress F.own (encR F.ress r) n0).1) = true) :
    LocalOk P o ev bx (oneA (resL F.ress F.own (encR F.ress r) n0).1) (frzE bx ks ++ (resL F.ress F.own (encR F.ress r) n0).2) ks := by
  intro w ρ bx' a K' Q hag hnew hs hrep hK
  have hr' : ∀ y, y ∈ c.operands → Rep w ρ bx' (a.eval y) (ev y) := fun y hy => hrep y (by rw [ho]; exact hy)
  have hxr := hr' x (by simp [Call.operands, hc])
  rw [hx] at hxr
  obtain ⟨cv, hcv, hcr⟩ := hxr.inv_clo
  have hcv0 : cv = [] := List.eq_nil_of_length_eq_zero (by rw [hcr.1]; rfl)
  subst hcv0
  unfold Oper.wp
  rw [exec_call ho hc hd.can a w hcv, List.append_nil]
  obtain ⟨he1, hs1, hf1⟩ := hs.frzs ks bx' hag hnd
  have hall := (RepL.args hr').ext he1
  have hpl := cellsOf_sound (w := w) (ρ := ρ) (ρc := envK [] ρ (appE bx' (frzE bx ks))) (bx := bx) (bx1 := appE bx' (frzE bx ks))
    (fun os as ts ks vs h1 h2 h3 => RepTL.plain (fun b _ hb => okS_envK hb) (tTs_sound hs1 as os ts ks vs h1 h2 h3)) F.pars _ cs ks0 _ hcs (fun k hk => hf1 k (hsub k hk)) hall
  have hsK := hs1.onlyK (K := []) (fun k hk => by simp at hk)
  have hnil : onlyK [] (appE bx' (frzE bx ks)) = nilB := by funext k; simp [onlyK, nilB]
  have hcalls := (hd.den cs r hr n0).calls w (envK [] ρ (appE bx' (frzE bx ks))) _ (by rw [← hnil]; exact hsK) hpl
  refine hcalls.mono fun e w' ⟨v, ρc, he, hext, hso, hv⟩ => ?_
  subst he
  rw [← hnil] at hext
  have hNn : ∀ k, k ∈ keys (resL F.ress F.own (encR F.ress r) n0).2 → appE bx' (frzE bx ks) k = .nil := fun k hk => by
    rw [appE_other _ _ _ (fun b hb => hN k hk (frzE_keys hb))]
    obtain ⟨p, hp, rfl⟩ := List.mem_map.1 hk
    exact (hnew p.1 p.2 (List.mem_append_right _ hp)).resolve_left (hN p.1 hk)
  obtain ⟨ρ', g1, g2, g3⟩ := frame_call (K := []) hs1 hNn hext hso (fun k hk => List.all_eq_true.1 hin k hk)
  rw [List.nil_append, appE_joinK] at g1 g2 g3
  rw [appE_append] at hK
  exact hK v w' ρ' (he1.trans g1) g2 (g3 4 v _ hrr hv)

/-- arguments as a callee without boxes sees them: nothing is frozen -/
def env0 : Env := ⟨fun _ => 0, fun _ => undef, fun _ => True⟩
theorem own_env0 (k : Nat) : own env0 nilB k = none := rfl
theorem ok_env0 (b : Nat) : okS env0 nilB b := ⟨fun ⟨k, hk⟩ => (by rw [own_env0] at hk; cases hk), trivial⟩
theorem sim_env0' {w : World} (hg : GlobOk w env0 nilB) : SimB w env0 nilB := ⟨fun _ _ => trivial, fun _ => trivial, fun k k' b h1 => (by rw [own_env0] at h1; cases h1), hg⟩
theorem sim_env0 {w : World} {ρ : Env} {bx : Nat → Box} (h : SimB w ρ bx) : SimB w env0 nilB := sim_env0' (h.glob.ext (Nat.le_refl _) fun b _ _ => ⟨rfl, ok_env0 b⟩)
theorem cellsOf_read {bx : Bxs} {w : World} {ρ : Env} {bx' : Nat → Box} (hs : SimB w ρ bx') : ∀ (tys : List Sig.TI) (as : List AV) (cs : List (List Tree)) (ks : List Nat) (vs : List Value), cellsOf tys as bx = some (cs, ks) → (∀ k, k ∈ ks → bx' k = bget bx k) → RepL w ρ bx' vs as → RepL w env0 nilB vs (argA tys cs) := by
  intro tys
  induction tys with
  | nil =>
    intro as cs ks vs h _ hr
    cases as with
    | cons => cases h
    | nil =>
      simp only [cellsOf, Option.some.injEq, Prod.mk.injEq] at h
      obtain ⟨rfl, rfl⟩ := h
      exact ⟨hr.1, fun i v t h1 h2 => by simp [argA] at h2⟩
  | cons t tys ih =>
    intro as cs ks vs h hf hr
    cases as with
    | nil => cases h
    | cons a as =>
      simp only [cellsOf] at h
      split at h
      · cases h
      · rename_i c k1 hc
        split at h
        · cases h
        · rename_i cs' k2 hcs
          simp only [Option.some.injEq, Prod.mk.injEq] at h
          obtain ⟨rfl, rfl⟩ := h
          cases vs with
          | nil => have := hr.1; simp at this
          | cons v vs =>
            have ih := ih as cs' k2 vs hcs (fun j hj => hf j (by simp [hj])) ⟨by have := hr.1; simpa using this, fun i v t h1 h2 => hr.2 (i + 1) v t (by simpa using h1) (by simpa using h2)⟩
            have conv : ∀ (as : List AV) (us : List Value), tTs bx (Sig.shp t) as = some (c, k1) → RepL w ρ bx' us as → RepL w env0 nilB us (c.map ofTree) := fun as us h1 h2 =>
              RepTL.map_ofTree ((tTs_read hs as _ _ _ us h1 (fun j hj => hf j (by simp [hj])) h2).ext fun b _ _ => ⟨rfl, ok_env0 b⟩)
            have h0 : Rep w env0 nilB v (avT t (c.map ofTree)) := by
              have hva := hr.2 0 v a rfl rfl
              split at hc
              · rename_i cs'' hag
                obtain ⟨us, rfl, hus⟩ := hva.inv_agg
                exact avT_rep (.inl ⟨hag, rfl⟩) (conv _ us hc hus)
              · cases hc
              · rename_i hag
                refine avT_rep (.inr ⟨hag, rfl⟩) (conv _ [v] hc ⟨rfl, fun i v' t' h1 h2 => ?_⟩)
                match i, h1, h2 with
                | 0, h1, h2 => simp at h1 h2; subst h1; subst h2; exact hva
                | i + 1, h1, _ => simp at h1
            refine ⟨by simp [argA, ih.1], fun i v' t' h1 h2 => ?_⟩
            match i, h1, h2 with
            | 0, h1, h2 => simp [argA] at h1 h2; subst h1; subst h2; exact h0
            | i + 1, h1, h2 => exact ih.2 i v' t' (by simpa using h1) (by simpa [argA] using h2)

/-- a call of a function on plain data whose result holds no slice -/
theorem callP_sound {P : Program} {o : Oper} {ev : Operand → AV} {bx : Bxs} {c : Call} {x : Operand} {f : FuncId} {F : Fun} {cs : List (List Tree)} {ks : List Nat} {r : Ress F.ress} {n0 : Nat} (ho : o.op = .call c) (hc : c.callee = .value x) (hx : ev x = .clo f [])
    (hd : DenF P f F) (hcs : cellsOf F.pars (c.args.toList.map ev) bx = some (cs, ks)) (hr : apF F.pars F.fn cs = some (some r))
    (hrr : litA 4 (oneA (resL F.ress F.own (encR F.ress r) n0).1) = true) :
    LocalOk P o ev bx (oneA (resL F.ress F.own (encR F.ress r) n0).1) [] ks := by
  intro w ρ bx' a K' Q hag hnew hs hrep hK
  have hr' : ∀ y, y ∈ c.operands → Rep w ρ bx' (a.eval y) (ev y) := fun y hy => hrep y (by rw [ho]; exact hy)
  have hxr := hr' x (by simp [Call.operands, hc])
  rw [hx] at hxr
  obtain ⟨cv, hcv, hcr⟩ := hxr.inv_clo
  have hcv0 : cv = [] := List.eq_nil_of_length_eq_zero (by rw [hcr.1]; rfl)
  subst hcv0
  unfold Oper.wp
  rw [exec_call ho hc hd.can a w hcv, List.append_nil]
  have hpl := cellsOf_read hs F.pars _ cs ks _ hcs hag (RepL.args hr')
  have hcalls := (hd.den cs r hr n0).calls w env0 _ (sim_env0 hs) hpl
  refine hcalls.mono fun e w' ⟨v, ρc, he, hext, hso, hv⟩ => ?_
  subst he
  have hbel : Below w.heap.size w w' := ⟨hext.below.os, hext.below.tape, hext.below.output, hext.below.size, fun b hb => hext.keep b hb (fun ⟨k, hk⟩ => (by rw [own_env0] at hk; cases hk))⟩
  exact hK v w' ρ (Ext.world hbel) (hs.world hbel) (Rep.lits 4 hrr hv)

/-! results that are own rows of plain elements: nothing need be frozen -/
def notSl : LK Sig.TI → Bool
  | .sl _ => false
  | _ => true
def plainRow : Box → Bool
  | .row false _ q => (Sig.shp q.e).all notSl
  | _ => false
def litR (K : List Nat) : Nat → AV → Bool
  | 0, _ => false
  | n + 1, t => match t with
    | .lit _ => true
    | .row k => K.contains k
    | .agg cs => cs.all (litR K n)
    | .tup cs => cs.all (litR K n)
    | .dead => true
    | _ => false
theorem fits_lit : ∀ {ks : List (LK Sig.TI)} {ts : List Tree}, fits ks ts = true → ks.all notSl = true → ∀ t, t ∈ ts → ∃ v, t = .lit v
  | [], [], _, _, t, ht => by simp at ht
  | [], _ :: _, h, _, _, _ => by cases h
  | _ :: _, [], h, _, _, _ => by cases h
  | k :: ks, t0 :: ts, h, hn, t, ht => by
    simp only [fits, Bool.and_eq_true] at h
    simp only [List.all_cons, Bool.and_eq_true] at hn
    rcases List.mem_cons.1 ht with rfl | ht
    · cases t with
      | lit v => exact ⟨v, rfl⟩
      | sl q =>
        cases k with
        | sl e => cases hn.1
        | _ => cases h.1
    · exact fits_lit h.2 hn.2 t ht
theorem RowRep.plain {w w' : World} {ok ok' : Nat → Prop} {xs : List Value} {q : Row} (hp : (Sig.shp q.e).all notSl = true) (h : RowRep w ok xs q) : RowRep w' ok' xs q :=
  ⟨h.one, fun i j t v hi ht hv => by
    obtain ⟨u, rfl⟩ := fits_lit (Sig.enc_fits q.e _) hp t (List.mem_of_getElem? ht)
    have := h.rep i j _ v hi ht hv
    cases this
    exact .lit _⟩
theorem Rep.litR {w w' : World} {ρ ρ' : Env} {bx bx' : Nat → Box} {K : List Nat} (hk : ∀ k, k ∈ K → (bx k).made → (bx' k).made ∧ ρ'.hd k = ρ.hd k) : ∀ (n : Nat) {v : Value} {t : AV}, Cm.litR K n t = true → Rep w ρ bx v t → Rep w' ρ' bx' v t
  | 0, v, t, h, _ => by cases h
  | n + 1, v, t, h, r => by
    have hl : ∀ {vs : List Value} {ts : List AV}, ts.all (Cm.litR K n) = true → (∀ (i : Nat) (v : Value) (t : AV), vs[i]? = some v → ts[i]? = some t → Rep w ρ bx v t) → ∀ (i : Nat) (v : Value) (t : AV), vs[i]? = some v → ts[i]? = some t → Rep w' ρ' bx' v t :=
      fun ht hr i v t h1 h2 => Rep.litR hk n (List.all_eq_true.1 ht t (List.mem_of_getElem? h2)) (hr i v t h1 h2)
    cases r with
    | lit v => exact .lit v
    | agg vs ts e hr => exact .agg vs ts e (hl h hr)
    | tup vs ts e hr => exact .tup vs ts e (hl h hr)
    | dead v => exact .dead v
    | row k v hm hs hv =>
      obtain ⟨h1, h2⟩ := hk k (by simpa [Cm.litR] using h) hm
      exact .row k v h1 hs (by rw [hv, h2])
    | _ => cases h

/-- own rows of plain elements join the caller's boxes -/
theorem join_rows {N : List Nat} {w w' : World} {ρ ρc : Env} {bx bo : Nat → Box} (hs : SimB w ρ bx) (hN : ∀ k, k ∈ N → bx k = .nil) (hbel : Below w.heap.size w w') (hso : SimB w' ρc bo) (hnew : ∀ b, Mut ρc bo b → w.heap.size ≤ b) (hpl : ∀ k, k ∈ N → plainRow (bo k) = true) :
    ∃ ρ', Ext w ρ bx w' ρ' (joinK N bx bo) ∧ SimB w' ρ' (joinK N bx bo) ∧ ∀ n v t, litR N n t = true → Rep w' ρc bo v t → Rep w' ρ' (joinK N bx bo) v t := by
  let ρ' : Env := ⟨fun k => if k ∈ N then ρc.β k else ρ.β k, fun k => if k ∈ N then ρc.hd k else ρ.hd k, ρ.A⟩
  have hβi : ∀ k, k ∈ N → ρ'.β k = ρc.β k := fun k hk => if_pos hk
  have hhi : ∀ k, k ∈ N → ρ'.hd k = ρc.hd k := fun k hk => if_pos hk
  have hβo : ∀ k, k ∉ N → ρ'.β k = ρ.β k := fun k hk => if_neg hk
  have hho : ∀ k, k ∉ N → ρ'.hd k = ρ.hd k := fun k hk => if_neg hk
  have hji : ∀ k, k ∈ N → joinK N bx bo k = bo k := fun k hk => if_pos hk
  have hjo : ∀ k, k ∉ N → joinK N bx bo k = bx k := fun k hk => if_neg hk
  have hoi : ∀ k, k ∈ N → own ρ' (joinK N bx bo) k = own ρc bo k := fun k hk => own_other (hji k hk) (hβi k hk) (hhi k hk)
  have hoo : ∀ k, k ∉ N → own ρ' (joinK N bx bo) k = own ρ bx k := fun k hk => own_other (hjo k hk) (hβo k hk) (hho k hk)
  have hext : Ext w ρ bx w' ρ' (joinK N bx bo) := {
    below := hbel.mono (Nat.zero_le _)
    keep := fun b hb _ => hbel.block b hb
    mutOld := fun b hb ⟨k, hk⟩ => by
      by_cases hm : k ∈ N
      · rw [hoi k hm] at hk; have := hnew b ⟨k, hk⟩; omega
      · rw [hoo k hm] at hk; exact ⟨k, hk⟩
    env := fun k hm => by
      have hk : k ∉ N := fun h => by rw [hN k h] at hm; exact hm
      exact ⟨hβo k hk, hho k hk, by rw [hjo k hk]; exact hm⟩
    A := rfl }
  refine ⟨ρ', hext, ⟨fun b hb => hs.base b (Nat.le_trans hbel.size hb), fun k => ?_, fun k k' b h1 h2 => ?_, hs.glob.ext hbel.size hext.ok⟩, fun n v t hn r => Rep.litR (fun k hk hm => ⟨by rw [hji k hk]; exact hm, hhi k hk⟩) n hn r⟩
  · by_cases hk : k ∈ N
    · rw [hji k hk]
      have hp := hpl k hk
      have hb := hso.box k
      cases hbk : bo k with
      | row full e q =>
        rw [hbk] at hp hb
        cases full with
        | true => cases hp
        | false =>
          obtain ⟨xs, g1, g2, g3, g4⟩ := hb
          refine ⟨xs, ?_, g2.plain hp, by rw [hhi k hk, hβi k hk]; exact g3, fun h => by cases h⟩
          rw [hhi k hk]
          exact g1.mono fun c hc _ => hs.base c (hnew c ⟨k, by unfold own; rw [hbk]; exact hc⟩)
      | _ => rw [hbk] at hp; cases hp
    · rw [hjo k hk]
      by_cases hm : (bx k).made
      · exact SimBox.ext hext (hs.box k) rfl hm fun c hc => hbel.block c (hs.own_lt hc)
      · cases hb : bx k <;> rw [hb] at hm <;> first | exact absurd trivial hm | trivial
  · have mixed : ∀ k k', own ρc bo k = some b → own ρ bx k' = some b → False := fun k k' e1 e2 => by
      have h3 := hs.own_lt e2
      have h4 := hnew b ⟨k, e1⟩
      omega
    by_cases hk : k ∈ N <;> by_cases hk' : k' ∈ N
    · rw [hoi k hk] at h1; rw [hoi k' hk'] at h2; exact hso.inj k k' b h1 h2
    · rw [hoi k hk] at h1; rw [hoo k' hk'] at h2; exact (mixed k k' h1 h2).elim
    · rw [hoo k hk] at h1; rw [hoi k' hk'] at h2; exact (mixed k' k h2 h1).elim
    · rw [hoo k hk] at h1; rw [hoo k' hk'] at h2; exact hs.inj k k' b h1 h2

/-- a call of a function on plain data whose results are own rows of plain elements -/
theorem callO_sound {P : Program} {o : Oper} {ev : Operand → AV} {bx : Bxs} {c : Call} {x : Operand} {f : FuncId} {F : Fun} {cs : List (List Tree)} {ks : List Nat} {r : Ress F.ress} {n0 : Nat} (ho : o.op = .call c) (hc : c.callee = .value x) (hx : ev x = .clo f [])
    (hd : DenF P f F) (hcs : cellsOf F.pars (c.args.toList.map ev) bx = some (cs, ks)) (hr : apF F.pars F.fn cs = some (some r)) (hN : ∀ k, k ∈ keys (resL F.ress F.own (encR F.ress r) n0).2 → k ∉ ks)
    (hpr : (keys (resL F.ress F.own (encR F.ress r) n0).2).all (fun k => plainRow (appE nilB (resL F.ress F.own (encR F.ress r) n0).2 k)) = true)
    (hrr : litR (keys (resL F.ress F.own (encR F.ress r) n0).2) 4 (oneA (resL F.ress F.own (encR F.ress r) n0).1) = true) :
    LocalOk P o ev bx (oneA (resL F.ress F.own (encR F.ress r) n0).1) (resL F.ress F.own (encR F.ress r) n0).2 ks := by
  intro w ρ bx' a K' Q hag hnew hs hrep hK
  have hr' : ∀ y, y ∈ c.operands → Rep w ρ bx' (a.eval y) (ev y) := fun y hy => hrep y (by rw [ho]; exact hy)
  have hxr := hr' x (by simp [Call.operands, hc])
  rw [hx] at hxr
  obtain ⟨cv, hcv, hcr⟩ := hxr.inv_clo
  have hcv0 : cv = [] := List.eq_nil_of_length_eq_zero (by rw [hcr.1]; rfl)
  subst hcv0
  unfold Oper.wp
  rw [exec_call ho hc hd.can a w hcv, List.append_nil]
  have hpl := cellsOf_read hs F.pars _ cs ks _ hcs hag (RepL.args hr')
  have hcalls := (hd.den cs r hr n0).calls w env0 _ (sim_env0 hs) hpl
  refine hcalls.mono fun e w' ⟨v, ρc, he, hext, hso, hv⟩ => ?_
  subst he
  have hno : ∀ b, ¬ Mut env0 nilB b := fun b ⟨k, hk⟩ => (by rw [own_env0] at hk; cases hk)
  have hbel : Below w.heap.size w w' := ⟨hext.below.os, hext.below.tape, hext.below.output, hext.below.size, fun b hb => hext.keep b hb (hno b)⟩
  have hNn : ∀ k, k ∈ keys (resL F.ress F.own (encR F.ress r) n0).2 → bx' k = .nil := fun k hk => by
    obtain ⟨p, hp, rfl⟩ := List.mem_map.1 hk
    exact (hnew p.1 p.2 hp).resolve_left (hN p.1 hk)
  obtain ⟨ρ', g1, g2, g3⟩ := join_rows hs hNn hbel hso (fun b hb => by
    rcases Nat.lt_or_ge b w.heap.size with h | h
    · exact absurd (hext.mutOld b h hb) (hno b)
    · exact h) (fun k hk => List.all_eq_true.1 hpr k hk)
  rw [appE_joinK] at g1 g2 g3
  exact hK v w' ρ' g1 g2 (g3 4 v _ hrr hv)
end Go.Cm
