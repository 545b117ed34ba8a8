/- The abstract machine, third state, part 19: the operations of a region, one after the other, as a function. No condition. -/
import Derived.Test.YtibcoiabdnbdjaaDoorCmi
namespace Go.Cm
open Go.RowKit
set_option linter.unusedSectionVars false

/-! ways, what follows, rounds; where the machine does not go on -/
abbrev bad {α : Type} (_ : Nat) : Option α := none
abbrev condO {α : Type} (b : Bool) (x y : α) : α := cond b x y
abbrev bindO {α β : Type} (x : Option α) (f : α → Option β) : Option β := Option.bind x f
abbrev caseO {α β γ : Type} (o : Sum α β) (f : α → γ) (g : β → γ) : γ := Sum.elim f g o
def whileF {σ ρ : Type} (N : Nat) (body : σ → Option (Sum σ ρ)) (s : σ) : Option ρ :=
  Nat.rec (motive := fun _ => σ → Option ρ) (fun _ => none) (fun _ ih s => Option.bind (body s) fun o => Sum.elim ih some o) N s
theorem whileF_zero {σ ρ : Type} (body : σ → Option (Sum σ ρ)) (s : σ) : whileF 0 body s = none := rfl
theorem whileF_succ {σ ρ : Type} (N : Nat) (body : σ → Option (Sum σ ρ)) (s : σ) : whileF (N + 1) body s = Option.bind (body s) fun o => Sum.elim (whileF N body) some o := rfl
theorem condO_some {α : Type} {b : Bool} {x y : Option α} {a : α} (h : condO b x y = some a) : (b = true ∧ x = some a) ∨ (b = false ∧ y = some a) := by
  cases b
  · exact .inr ⟨rfl, h⟩
  · exact .inl ⟨rfl, h⟩
theorem bindO_some {α β : Type} {x : Option α} {f : α → Option β} {b : β} (h : bindO x f = some b) : ∃ a, x = some a ∧ f a = some b := Option.bind_eq_some_iff.1 h

variable [Sig]
/-! functions on plain data that may panic with a value of one type -/
structure FunP where
  pars : List Sig.TI
  ress : List Sig.TI
  own : List (List (Option TypeId))
  pt : TypeId
  pti : Sig.TI
  fn : Fn pars (Option (Sum (Ress ress) (Sig.Car pti)))
def litV : Tree → Value
  | .lit v => v
  | .sl _ => undef
/-- the panic's value -/
def panV (t : TypeId) (ti : Sig.TI) (x : Sig.Car ti) : Value :=
  .iface t (match Sig.isAgg ti with
    | true => .agg ⟨(Sig.enc ti x).map litV⟩
    | false => match Sig.enc ti x with
      | [c] => litV c
      | _ => undef)
def panE (v : Value) : List PanicEntry := [{ v := v, recovered := false }]
structure DenP (P : Program) (f : FuncId) (F : FunP) : Prop where
  can : Callable P f
  den : ∀ (cs : List (List Tree)) (r : Ress F.ress), apF F.pars F.fn cs = some (some (.inl r)) → ∀ n, DenB P f nilB (argA F.pars cs) (oneA (resL F.ress F.own (encR F.ress r) n).1) (appE nilB (resL F.ress F.own (encR F.ress r) n).2)
  pan : ∀ (cs : List (List Tree)) (x : Sig.Car F.pti), apF F.pars F.fn cs = some (some (.inr x)) → ∀ (w : World) (ρ : Env) (vs : List Value), SimB w ρ nilB → RepL w ρ nilB vs (argA F.pars cs) →
    Calls P f ⟨vs⟩ w fun e w' => ∃ ρ', e = .panicked (panE (panV F.pt F.pti x)) ∧ Ext w ρ nilB w' ρ' nilB
def mapFn {R R' : Type} (g : R → R') : (ts : List Sig.TI) → Fn ts R → Fn ts R'
  | [], f => g f
  | _ :: ts, f => fun x => mapFn g ts (f x)
theorem apF_map {R R' : Type} (g : R → R') : ∀ (ts : List Sig.TI) (f : Fn ts R) (cs : List (List Tree)), apF ts (mapFn g ts f) cs = (apF ts f cs).map g
  | [], f, [] => rfl
  | [], f, _ :: _ => rfl
  | t :: ts, f, [] => rfl
  | t :: ts, f, c :: cs => by
    simp only [apF]
    split
    · exact apF_map g ts _ cs
    · rfl
def leftO {α β : Type} (o : Option (Sum α β)) : Option α := match o with
  | some (.inl a) => some a
  | _ => none
def FunP.left (F : FunP) : Fun := ⟨F.pars, F.ress, F.own, mapFn leftO F.pars F.fn⟩
theorem DenP.toF {P : Program} {f : FuncId} {F : FunP} (h : DenP P f F) : DenF P f F.left where
  can := h.can
  den := fun cs r hr n => by
    refine h.den cs r ?_ n
    have hr' : (apF F.pars F.fn cs).map leftO = some (some r) := by rw [← apF_map]; exact hr
    cases hq : apF F.pars F.fn cs with
    | none => rw [hq] at hr'; cases hr'
    | some o =>
      rw [hq] at hr'
      have hr2 : leftO o = some r := Option.some.inj hr'
      match o, hr2 with
      | some (.inl a), hr2 => exact congrArg (fun z => some (some (Sum.inl z))) (Option.some.inj hr2)
theorem FunP.left_ap {F : FunP} {cs : List (List Tree)} {r : Ress F.ress} (h : apF F.pars F.fn cs = some (some (.inl r))) : apF F.left.pars F.left.fn cs = some (some r) := by
  show apF F.pars (mapFn leftO F.pars F.fn) cs = _
  rw [apF_map, h]
  rfl
structure Ctx where
  P : Program
  N : Nat
  Γ : FuncId → Option Fun
  Ψ : FuncId → Option FunP
def isNil : Box → Bool
  | .nil => true
  | _ => false
theorem isNil_spec {b : Box} (h : isNil b = true) : b = .nil := by cases b <;> first | rfl | cases h
def withB {A : Type} (c : Option Bool) (k : Option A) : Option A := match c with | none => k | some b => condO b k none
theorem withB_some {A : Type} {c : Option Bool} {k : Option A} {a : A} (h : withB c k = some a) : CondP c ∧ k = some a := by
  cases c with
  | none => exact ⟨trivial, h⟩
  | some b => rcases condO_some h with ⟨h1, h2⟩ | ⟨_, h2⟩
              · exact ⟨h1, h2⟩
              · cases h2
def topOf (nb : Nat) : List (Nat × Box) → Nat
  | [] => nb
  | (k, _) :: e => topOf (max nb (k + 1)) e
theorem topOf_le : ∀ (e : List (Nat × Box)) (nb : Nat), nb ≤ topOf nb e
  | [], _ => Nat.le_refl _
  | (k, _) :: e, nb => Nat.le_trans (Nat.le_max_left _ _) (topOf_le e _)
def newChk (B : Bxs) (e : List (Nat × Box)) (rd : List Nat) : Bool := e.all fun p => rd.contains p.1 || isNil (bget B p.1)
theorem newChk_spec {B : Bxs} {e : List (Nat × Box)} {rd : List Nat} (h : newChk B e rd = true) : ∀ k b, (k, b) ∈ e → k ∈ rd ∨ bget B k = .nil := fun k b hb => by
  have := List.all_eq_true.1 h _ hb
  simp only [Bool.or_eq_true, List.contains_iff_mem] at this
  exact this.imp id isNil_spec
/-- new contents of rows get a name -/
def shareE {A : Type} : List (Nat × Box) → (List (Nat × Box) → Option A) → Option A
  | [], k => k []
  | (j, b) :: e, k => match b with
    | .row full et q => bindO (some q.l) fun l => shareE e fun e' => k ((j, .row full et ⟨q.e, l⟩) :: e')
    | b => shareE e fun e' => k ((j, b) :: e')
theorem shareE_eq {A : Type} : ∀ (e : List (Nat × Box)) (k : List (Nat × Box) → Option A), shareE e k = k e
  | [], _ => rfl
  | (j, b) :: e, k => by
    unfold shareE
    split
    · simp only [bindO, Option.bind_some]
      exact shareE_eq e _
    · exact shareE_eq e _
def resK {A : Type} (st : St) (K : AV → List (Nat × Box) → List Nat → Nat → Option A) (res : Res) : Option A :=
  match res with
  | none => bad 1
  | some (cd, r, e, rd) => match newChk st.B e rd && !rd.contains st.nb with
    | true => withB cd (shareE e fun e => K r e rd (topOf st.nb e))
    | false => bad 2

/-! which boxes are handed to a callee whose text is entered -/
def menA : Nat → AV → List Nat
  | 0, _ => []
  | n + 1, t => match t with
    | .agg cs => cs.flatMap (menA n)
    | .tup cs => cs.flatMap (menA n)
    | .clo _ cs => cs.flatMap (menA n)
    | .bnd _ cs => cs.flatMap (menA n)
    | .mp k => [k]
    | .selfn k => [k]
    | .rowz k => [k]
    | .sd k => [k]
    | .row k => [k]
    | .ptr k _ => [k]
    | .rp k _ _ _ => [k]
    | _ => []
def menB : Box → List Nat
  | .var _ cs => cs.flatMap (menA 3)
  | .tab ts => ts.flatMap fun p => menA 3 p.2
  | _ => []
def ddup : List Nat → List Nat
  | [] => []
  | k :: ks => match (ddup ks).contains k with
    | true => ddup ks
    | false => k :: ddup ks
theorem ddup_mem : ∀ {ks : List Nat} {k : Nat}, k ∈ ks → k ∈ ddup ks
  | j :: ks, k, h => by
    unfold ddup
    split
    · rename_i hc
      rcases List.mem_cons.1 h with rfl | h
      · exact List.contains_iff_mem.1 hc
      · exact ddup_mem h
    · rcases List.mem_cons.1 h with rfl | h
      · exact List.mem_cons_self ..
      · exact List.mem_cons_of_mem _ (ddup_mem h)
theorem ddup_nodup : ∀ (ks : List Nat), nodupB (ddup ks) = true
  | [] => rfl
  | k :: ks => by
    unfold ddup
    split
    · exact ddup_nodup ks
    · rename_i hc
      have : k ∉ ddup ks := fun h => by rw [List.contains_iff_mem.2 h] at hc; cases hc
      simp [nodupB, this, ddup_nodup ks]
def reach (B : Bxs) : Nat → List Nat → List Nat
  | 0, K => K
  | n + 1, K => reach B n (ddup (K ++ K.flatMap fun k => menB (bget B k)))
def restr (K : List Nat) (B : Bxs) : Bxs := K.map fun k => (k, bget B k)
theorem bget_restr (B : Bxs) : ∀ (K : List Nat), bget (restr K B) = onlyK K (bget B)
  | [] => by funext k; simp [restr, bget, onlyK]
  | j :: K => by
    funext k
    have ih := congrFun (bget_restr B K) k
    simp only [restr, List.map_cons, bget, onlyK] at ih ⊢
    by_cases h : j = k
    · subst h; simp
    · rw [if_neg h, ih]
      simp [List.mem_cons, Ne.symm h]
def newIds (n m : Nat) : List Nat := (List.range (m - n)).map (· + n)

abbrev Inl (A : Type) := FuncId → List AV → Bxs → Nat → (AV → Bxs → Nat → Option A) → Option A
def InlOk (P : Program) {A : Type} (inl : Inl A) : Prop :=
  ∀ f args bi nb k a, (∀ j, (bget bi j).made → j < nb) → inl f args bi nb k = some a → ∃ r pu nb', DenB P f (bget bi) args r (bget (pu ++ bi)) ∧ nb ≤ nb' ∧ k r pu nb' = some a

def evRes {A : Type} (F : Fun) (st : St) (ks : List Nat) (r : Ress F.ress) (K : AV → List (Nat × Box) → List Nat → Nat → Option A) : Option A :=
      match litA 4 (oneA (resL F.ress F.own (encR F.ress r) st.nb).1) with
      | true => K (oneA (resL F.ress F.own (encR F.ress r) st.nb).1) [] ks st.nb
      | false =>
        match litR (keys (resL F.ress F.own (encR F.ress r) st.nb).2) 4 (oneA (resL F.ress F.own (encR F.ress r) st.nb).1) && (keys (resL F.ress F.own (encR F.ress r) st.nb).2).all (fun k => plainRow (appE nilB (resL F.ress F.own (encR F.ress r) st.nb).2 k) && (!ks.contains k && isNil (bget st.B k))) with
        | true => K (oneA (resL F.ress F.own (encR F.ress r) st.nb).1) (resL F.ress F.own (encR F.ress r) st.nb).2 ks (st.nb + (resL F.ress F.own (encR F.ress r) st.nb).2.length)
        | false =>
          match (keys (resL F.ress F.own (encR F.ress r) st.nb).2).all (fun k => !(ddup ks).contains k && (isNil (bget st.B k) && boxInK (keys (resL F.ress F.own (encR F.ress r) st.nb).2) (appE nilB (resL F.ress F.own (encR F.ress r) st.nb).2 k))) &&
            inK (keys (resL F.ress F.own (encR F.ress r) st.nb).2) 4 (oneA (resL F.ress F.own (encR F.ress r) st.nb).1) with
          | true => K (oneA (resL F.ress F.own (encR F.ress r) st.nb).1) (frzE st.B (ddup ks) ++ (resL F.ress F.own (encR F.ress r) st.nb).2) (ddup ks) (st.nb + (resL F.ress F.own (encR F.ress r) st.nb).2.length)
          | false => bad 5
def evCallF {A : Type} (F : Fun) (st : St) (args : List AV) (K : AV → List (Nat × Box) → List Nat → Nat → Option A) : Option A :=
  match cellsOf F.pars args st.B with
  | none => bad 3
  | some (cs, ks) => match apF F.pars F.fn cs with
    | none => bad 4
    | some o => bindO o fun r => evRes F st ks r K
def evCallP {A : Type} (F : FunP) (st : St) (args : List AV) (K : AV → List (Nat × Box) → List Nat → Nat → Option A) (KP : Value → List Nat → Option A) : Option A :=
  match cellsOf F.pars args st.B with
  | none => bad 3
  | some (cs, ks) => match apF F.pars F.fn cs with
    | none => bad 4
    | some o => bindO o fun r => caseO r (fun r => evRes F.left st ks r K) (fun x => KP (panV F.pt F.pti x) ks)
def evCallI {A : Type} (inl : Inl A) (f : FuncId) (st : St) (args : List AV) (K : AV → List (Nat × Box) → List Nat → Nat → Option A) : Option A :=
  let Kb := reach st.B 3 (ddup (args.flatMap (menA 4)))
  match args.all (inK Kb 4) && (Kb.all (fun k => boxInK Kb (bget st.B k) && decide (k < st.nb))) with
  | false => bad 6
  | true => inl f args (restr Kb st.B) st.nb fun r pu nb' =>
    let M := ddup (keys pu)
    let Q := Kb ++ M.filter fun k => !Kb.contains k
    match Q.all (fun k => boxInK Q (bget (pu ++ restr Kb st.B) k)) && (inK Q 4 r && M.all (fun k => Kb.contains k || isNil (bget st.B k))) with
    | false => bad 7
    | true => K r (M.map fun k => (k, bget (pu ++ restr Kb st.B) k)) Kb nb'
/-- one operation, and what follows -/
def evOne {A : Type} (cx : Ctx) (inl : Inl A) (o : Oper) (st : St) (K : AV → List (Nat × Box) → List Nat → Nat → Option A) (KP : Value → List Nat → Option A) : Option A :=
  match o.op with
  | .panic x => match evA st.R x with
    | .lit (.iface t v) => KP (.iface t v) []
    | _ => bad 61
  | .call c => match c.callee with
    | .value x => match evA st.R x with
      | .clo f caps => match cx.Γ f with
        | some F => match caps with
          | [] => evCallF F st (c.args.toList.map (evA st.R)) K
          | _ :: _ => bad 8
        | none => match cx.Ψ f with
          | some F => match caps with
            | [] => evCallP F st (c.args.toList.map (evA st.R)) K KP
            | _ :: _ => bad 62
          | none => evCallI inl f st (c.args.toList.map (evA st.R) ++ caps) K
      | .bnd f fi => evCallI inl f st (fi ++ c.args.toList.map (evA st.R)) K
      | _ => bad 9
    | .builtin b => resK st K (builtinF cx.P b (c.args.toList.map (evA st.R)) c.argTypes.toList st.B st.nb)
    | _ => bad 10
  | .pick c a b => match evA st.R c with
    | .lit (.bool t) => condO t (K (evA st.R a) [] [] st.nb) (K (evA st.R b) [] [] st.nb)
    | _ => bad 11
  | .next x s => match s, evA st.R x with
    | true, .ptr k 0 => (match bget st.B k with
      | .iter u p => condO (decide (p < u.size)) (K (.tup [.lit (.bool true), .lit (.int .i64 (p : Int)), .lit (.int .i32 (runeAt u p))]) [(k, .iter u (p + runeW u p))] [k] st.nb) (K (.tup [.lit (.bool false)]) [] [k] st.nb)
      | _ => bad 90)
    | _, _ => bad 91
  | op => resK st K (opF cx.P op o.type (evA st.R) st.B st.nb)

def evOps {A : Type} (cx : Ctx) (inl : Inl A) (nt : Nat) (ops : Array Oper) (KP : List Oper → Value → List Nat → St → List (List Nat × List Nat) → Option A) (K : St → List (List Nat × List Nat) → Option A) : List Oper → St → List (List Nat × List Nat) → Option A
  | [], st, lg => K st lg
  | o :: os, st, lg =>
    match o.guard with
    | none => evOne cx inl o st (fun r e rd nb => evOps cx inl nt ops KP K os ⟨putD nt st.fr o.dst r, st.tl, appL st.bx e, st.bt, nb⟩ ((rd, e.map (·.1)) :: lg)) (fun v rd => KP os v rd st lg)
    | some (j, want) => match (ops[j]?).bind (·.dst) with
      | none => bad 12
      | some s => match lk st.R s with
        | .lit (.bool b) =>
          match want with
          | true => condO b (evOne cx inl o ⟨(s, .lit (.bool true)) :: st.fr, st.tl, st.bx, st.bt, st.nb⟩ (fun r e rd nb => evOps cx inl nt ops KP K os ⟨putD nt ((s, .lit (.bool true)) :: st.fr) o.dst r, st.tl, appL st.bx e, st.bt, nb⟩ ((rd, e.map (·.1)) :: lg)) (fun v rd => KP os v rd ⟨(s, .lit (.bool true)) :: st.fr, st.tl, st.bx, st.bt, st.nb⟩ lg))
              (evOps cx inl nt ops KP K os ⟨putD nt ((s, .lit (.bool false)) :: st.fr) o.dst (.lit undef), st.tl, st.bx, st.bt, st.nb⟩ (([], []) :: lg))
          | false => condO b (evOps cx inl nt ops KP K os ⟨putD nt ((s, .lit (.bool true)) :: st.fr) o.dst (.lit undef), st.tl, st.bx, st.bt, st.nb⟩ (([], []) :: lg))
              (evOne cx inl o ⟨(s, .lit (.bool false)) :: st.fr, st.tl, st.bx, st.bt, st.nb⟩ (fun r e rd nb => evOps cx inl nt ops KP K os ⟨putD nt ((s, .lit (.bool false)) :: st.fr) o.dst r, st.tl, appL st.bx e, st.bt, nb⟩ ((rd, e.map (·.1)) :: lg)) (fun v rd => KP os v rd ⟨(s, .lit (.bool false)) :: st.fr, st.tl, st.bx, st.bt, st.nb⟩ lg))
        | .lit (.tuple _) => evOps cx inl nt ops KP K os ⟨putD nt st.fr o.dst (.lit undef), st.tl, st.bx, st.bt, st.nb⟩ (([], []) :: lg)
        | _ => bad 13

/-! what they say -/
theorem newIds_mem {n m k : Nat} (h : k ∈ newIds n m) : n ≤ k := by
  simp only [newIds, List.mem_map] at h
  obtain ⟨i, _, rfl⟩ := h
  omega

section
variable {A : Type} {cx : Ctx} {inl : Inl A}
/-- the operation panics; the boxes are as they were -/
def PanOk (P : Program) (o : Oper) (ev : Operand → AV) (bx : Bxs) (v : Value) (rd : List Nat) : Prop :=
  ∀ (w : World) (ρ : Env) (bx' : Nat → Box) (a : Act) (K : Act → World → Prop) (Q : Exit → Act → World → Prop),
    (∀ k, k ∈ rd → bx' k = bget bx k) → SimB w ρ bx' → (∀ x, x ∈ o.op.operands → Rep w ρ bx' (a.eval x) (ev x)) →
    (∀ w', Below w.heap.size w w' → Q (.panic (panE v)) a w') → o.wp P a w K Q
def OneIs (P : Program) (o : Oper) (st : St) (K : AV → List (Nat × Box) → List Nat → Nat → Option A) (KP : Value → List Nat → Option A) (a : A) : Prop :=
  (∃ r e rd nb, LocalOk P o (evG (lk st.R)) st.B r e rd ∧ (∀ k b, (k, b) ∈ e → k ∈ rd ∨ bget st.B k = .nil) ∧ st.nb ≤ nb ∧ K r e rd nb = some a) ∨
  ∃ v rd, PanOk P o (evG (lk st.R)) st.B v rd ∧ KP v rd = some a
theorem panic_sound {P : Program} {o : Oper} {ev : Operand → AV} {bx : Bxs} {x : Operand} {t : TypeId} {v : Value} (ho : o.op = .panic x) (hx : ev x = .lit (.iface t v)) : PanOk P o ev bx (.iface t v) [] := by
  intro w ρ bx' a K Q _ _ hr hq
  have h1 := hr x (by rw [ho]; simp [Op.operands])
  rw [hx] at h1
  have h2 := h1.inv_lit
  unfold Oper.wp
  have e : (execOp a.eval o).run P w = .halt (.panic (.iface t v)) w := by simp [execOp, ho, h2, Instr.panic, goPanic]
  rw [e]
  exact hq w (Below.refl _ _)
theorem callPan_sound {P : Program} {o : Oper} {ev : Operand → AV} {bx : Bxs} {c : Call} {x : Operand} {f : FuncId} {F : FunP} {cs : List (List Tree)} {ks : List Nat} {y : Sig.Car F.pti} (ho : o.op = .call c) (hc : c.callee = .value x) (hx : ev x = .clo f [])
    (hd : DenP P f F) (hcs : cellsOf F.pars (c.args.toList.map ev) bx = some (cs, ks)) (hr : apF F.pars F.fn cs = some (some (.inr y))) : PanOk P o ev bx (panV F.pt F.pti y) ks := by
  intro w ρ bx' a K Q hag hs hrep hq
  have hr' : ∀ y, y ∈ c.operands → Rep w ρ bx' (a.eval y) (ev y) := fun y hy => hrep y (by rw [ho]; exact hy)
  have hxr := hr' x (by simp [Call.operands, hc])
  rw [hx] at hxr
  obtain ⟨cv, hcv, hcr⟩ := hxr.inv_clo
  have hcv0 : cv = [] := List.eq_nil_of_length_eq_zero (by rw [hcr.1]; rfl)
  subst hcv0
  unfold Oper.wp
  rw [exec_call ho hc hd.can a w hcv, List.append_nil]
  have hpl := cellsOf_read hs F.pars _ cs ks _ hcs hag (RepL.args hr')
  have hcalls := hd.pan cs y hr w env0 _ (sim_env0 hs) hpl
  refine hcalls.mono fun e w' ⟨ρc, he, hext⟩ => ?_
  subst he
  exact hq w' ⟨hext.below.os, hext.below.tape, hext.below.output, hext.below.size, fun b hb => hext.keep b hb (fun ⟨k, hk⟩ => (by rw [own_env0] at hk; cases hk))⟩

theorem LocalOk.congrE {P : Program} {o : Oper} {ev : Operand → AV} {bx : Bxs} {r : AV} {e e' : List (Nat × Box)} {rd : List Nat} (h : LocalOk P o ev bx r e rd) (he : ∀ bx' : Nat → Box, (∀ k, k ∈ rd → bx' k = bget bx k) → appE bx' e = appE bx' e')
    (hn : ∀ k b, (k, b) ∈ e → ∀ bx' : Nat → Box, (∀ k b, (k, b) ∈ e' → k ∈ rd ∨ bx' k = .nil) → k ∈ rd ∨ bx' k = .nil) : LocalOk P o ev bx r e' rd := by
  intro w ρ bx' a K Q hag hnew hs hr hK
  refine h w ρ bx' a K Q hag (fun k b hb => hn k b hb bx' hnew) hs hr fun v' w' ρ' g1 g2 g3 => ?_
  rw [he bx' hag] at g1 g2 g3
  exact hK v' w' ρ' g1 g2 g3

theorem evRes_sound {P : Program} {o : Oper} {st : St} {K : AV → List (Nat × Box) → List Nat → Nat → Option A} {a : A} {c : Call} {x : Operand} {f : FuncId} {F : Fun} {cs : List (List Tree)} {ks : List Nat} {r : Ress F.ress} (ho : o.op = .call c) (hc : c.callee = .value x) (hx : evA st.R x = .clo f [])
    (hd : DenF P f F) (hcs : cellsOf F.pars (c.args.toList.map (evA st.R)) st.B = some (cs, ks)) (hap : apF F.pars F.fn cs = some (some r)) (h : evRes F st ks r K = some a) :
    ∃ r e rd nb, LocalOk P o (evA st.R) st.B r e rd ∧ (∀ k b, (k, b) ∈ e → k ∈ rd ∨ bget st.B k = .nil) ∧ st.nb ≤ nb ∧ K r e rd nb = some a := by
  unfold evRes at h
  split at h
  · rename_i hlit
    exact ⟨_, [], ks, st.nb, callP_sound ho hc hx hd hcs hap hlit, fun k b hb => by simp at hb, Nat.le_refl _, h⟩
  · split at h
    · rename_i hchk
      simp only [Bool.and_eq_true] at hchk
      obtain ⟨hlr, hk⟩ := hchk
      have hk' : ∀ k, k ∈ keys (resL F.ress F.own (encR F.ress r) st.nb).2 → plainRow (appE nilB (resL F.ress F.own (encR F.ress r) st.nb).2 k) = true ∧ k ∉ ks ∧ bget st.B k = .nil := fun k hm => by
        have := List.all_eq_true.1 hk k hm
        simp only [Bool.and_eq_true, Bool.not_eq_true', List.contains_eq_mem, decide_eq_false_iff_not] at this
        exact ⟨this.1, this.2.1, isNil_spec this.2.2⟩
      exact ⟨_, _, ks, _, callO_sound ho hc hx hd hcs hap (fun k hm => (hk' k hm).2.1) (List.all_eq_true.2 fun k hm => (hk' k hm).1) hlr, fun k b hb => .inr (hk' k (List.mem_map.2 ⟨(k, b), hb, rfl⟩)).2.2, Nat.le_add_right _ _, h⟩
    · split at h
      · rename_i hchk
        simp only [Bool.and_eq_true] at hchk
        obtain ⟨hk, hin⟩ := hchk
        have hk' : ∀ k, k ∈ keys (resL F.ress F.own (encR F.ress r) st.nb).2 → k ∉ ddup ks ∧ bget st.B k = .nil ∧ boxInK (keys (resL F.ress F.own (encR F.ress r) st.nb).2) (appE nilB (resL F.ress F.own (encR F.ress r) st.nb).2 k) = true := fun k hm => by
          have := List.all_eq_true.1 hk k hm
          simp only [Bool.and_eq_true, Bool.not_eq_true', List.contains_eq_mem, decide_eq_false_iff_not] at this
          exact ⟨this.1, isNil_spec this.2.1, this.2.2⟩
        refine ⟨_, _, ddup ks, _, callF_sound ho hc hx hd hcs (fun k hk => ddup_mem hk) hap (ddup_nodup ks) (fun k hm => (hk' k hm).1) (List.all_eq_true.2 fun k hm => (hk' k hm).2.2) hin, fun k b hb => ?_, Nat.le_add_right _ _, h⟩
        rcases List.mem_append.1 hb with hb | hb
        · exact .inl (frzE_keys hb)
        · exact .inr (hk' k (List.mem_map.2 ⟨(k, b), hb, rfl⟩)).2.1
      · cases h

theorem evOne_sound (hΓ : ∀ f F, cx.Γ f = some F → DenF cx.P f F) (hΨ : ∀ f F, cx.Ψ f = some F → DenP cx.P f F) (hinl : InlOk cx.P inl) {o : Oper} {st : St} {K : AV → List (Nat × Box) → List Nat → Nat → Option A} {KP : Value → List Nat → Option A} {a : A} (h : evOne cx inl o st K KP = some a) : OneIs cx.P o st K KP a := by
  unfold OneIs
  rw [← evA_eq]
  have gen : ∀ res, opF cx.P o.op o.type (evA st.R) st.B st.nb = res → resK st K res = some a → ∃ r e rd nb, LocalOk cx.P o (evA st.R) st.B r e rd ∧ (∀ k b, (k, b) ∈ e → k ∈ rd ∨ bget st.B k = .nil) ∧ st.nb ≤ nb ∧ K r e rd nb = some a := by
    intro res hres h
    unfold resK at h
    split at h
    · cases h
    · rename_i cd r e rd
      split at h
      · rename_i hchk
        simp only [Bool.and_eq_true, Bool.not_eq_true', List.contains_eq_mem, decide_eq_false_iff_not] at hchk
        obtain ⟨h1, h2⟩ := withB_some h
        rw [shareE_eq] at h2
        exact ⟨r, e, rd, _, opF_sound hres h1 hchk.2, newChk_spec hchk.1, topOf_le _ _, h2⟩
      · cases h
  have ent : ∀ (f : FuncId) (L : List AV), CallsWith cx.P o (evA st.R) f L → evCallI inl f st L K = some a → ∃ r e rd nb, LocalOk cx.P o (evA st.R) st.B r e rd ∧ (∀ k b, (k, b) ∈ e → k ∈ rd ∨ bget st.B k = .nil) ∧ st.nb ≤ nb ∧ K r e rd nb = some a := by
    intro f L hex h
    unfold evCallI at h
    simp only at h
    split at h
    · cases h
    · rename_i hchk
      simp only [Bool.and_eq_true] at hchk
      obtain ⟨hargs, hK⟩ := hchk
      generalize hKb : reach st.B 3 (ddup (L.flatMap (menA 4))) = Kb at *
      have hK' : ∀ k, k ∈ Kb → boxInK Kb (bget st.B k) = true ∧ k < st.nb := fun k hk => by
        have := List.all_eq_true.1 hK k hk
        simpa only [Bool.and_eq_true, decide_eq_true_eq] using this
      replace h := hinl _ _ _ _ _ _ (fun j hj => by
        rw [bget_restr] at hj
        unfold onlyK at hj
        split at hj
        · rename_i hm; exact (hK' j hm).2
        · exact hj.elim) h
      obtain ⟨r, pu, nb', hden, hle, h⟩ := h
      split at h
      · cases h
      · rename_i hchk
        simp only [Bool.and_eq_true] at hchk
        obtain ⟨hbo, hr, hN⟩ := hchk
        rw [bget_restr] at hden
        have hM : ∀ k, k ∈ ddup (keys pu) → k ∈ Kb ∨ bget st.B k = .nil := fun k hk => by
          have := List.all_eq_true.1 hN k hk
          simp only [Bool.or_eq_true, List.contains_iff_mem] at this
          exact this.imp id isNil_spec
        have hNK : ∀ k, k ∈ (ddup (keys pu)).filter (fun k => !Kb.contains k) → k ∉ Kb := fun k hk hm => by
          have := (List.mem_filter.1 hk).2
          simp [hm] at this
        have hloc := callB_sound hex hden hargs (List.all_eq_true.2 fun k hk => (hK' k hk).1) hNK hbo hr
        refine ⟨r, _, Kb, nb', hloc.congrE ?_ ?_, fun k b hb => ?_, hle, h⟩
        · intro bx' hag
          rw [appE_map, appE_map]
          funext k
          unfold joinK
          by_cases hkM : k ∈ ddup (keys pu)
          · rw [if_pos hkM]
            by_cases hkK : k ∈ Kb
            · rw [if_pos (List.mem_append_left _ hkK)]
            · rw [if_pos (List.mem_append_right _ (List.mem_filter.2 ⟨hkM, by simp [hkK]⟩))]
          · rw [if_neg hkM]
            by_cases hkK : k ∈ Kb
            · rw [if_pos (List.mem_append_left _ hkK), hag k hkK]
              rcases bget_append pu (restr Kb st.B) k with h1 | ⟨_, h1⟩
              · exact absurd (ddup_mem (List.mem_map.2 ⟨_, h1, rfl⟩)) hkM
              · rw [h1, bget_restr]; exact if_pos hkK
            · rw [if_neg (fun hm => by
                rcases List.mem_append.1 hm with hm | hm
                · exact hkK hm
                · exact hkM (List.mem_filter.1 hm).1)]
        · intro k b hb bx' hnew
          obtain ⟨j, hj, he⟩ := List.mem_map.1 hb
          injection he with e1 e2
          subst e1
          rcases List.mem_append.1 hj with hj | hj
          · exact .inl hj
          · exact hnew j _ (List.mem_map.2 ⟨j, (List.mem_filter.1 hj).1, rfl⟩)
        · obtain ⟨j, hj, he⟩ := List.mem_map.1 hb
          injection he with e1 e2
          subst e1
          exact hM j hj
  unfold evOne at h
  cases ho : o.op with
  | call c =>
    rw [ho] at h gen
    simp only at h
    split at h
    · rename_i x hc
      split at h
      · rename_i f caps hx
        split at h
        · rename_i F hF
          split at h
          · -- by contract
            unfold evCallF at h
            split at h
            · cases h
            · rename_i cs ks hcs
              split at h
              · cases h
              · rename_i oo hap
                replace h := bindO_some h
                obtain ⟨r, hr, h⟩ := h
                subst hr
                exact .inl (evRes_sound ho hc hx (hΓ f F hF) hcs hap h)
          · cases h
        · split at h
          · rename_i F hF
            split at h
            · unfold evCallP at h
              split at h
              · cases h
              · rename_i cs ks hcs
                split at h
                · cases h
                · rename_i oo hap
                  replace h := bindO_some h
                  obtain ⟨r, hr, h⟩ := h
                  subst hr
                  cases r with
                  | inl r => exact .inl (evRes_sound ho hc hx (hΨ f F hF).toF hcs (FunP.left_ap hap) h)
                  | inr y => exact .inr ⟨_, ks, callPan_sound ho hc hx (hΨ f F hF) hcs hap, h⟩
            · cases h
          · exact .inl (ent f _ (CallsWith.clo ho hc hx) h)
      · rename_i f fi hx
        exact .inl (ent f _ (CallsWith.bnd ho hc hx) h)
      · cases h
    · rename_i b hc
      refine .inl (gen (builtinF cx.P b (c.args.toList.map (evA st.R)) c.argTypes.toList st.B st.nb) ?_ h)
      simp only [opF, hc]
    · cases h
  | pick c x y =>
    rw [ho] at h gen
    simp only at h
    split at h
    · rename_i t hc
      have hp : ∀ b, b = t → LocalOk cx.P o (evA st.R) st.B (match b with | true => evA st.R x | false => evA st.R y) [] [] := fun b hb => by
        refine pick_sound (c := none) ho ?_
        rw [hc, ← hb]; rfl
      rcases condO_some h with ⟨ht, h⟩ | ⟨ht, h⟩
      · exact .inl ⟨_, [], [], st.nb, hp true ht.symm, fun k b hb => by simp at hb, Nat.le_refl _, h⟩
      · exact .inl ⟨_, [], [], st.nb, hp false ht.symm, fun k b hb => by simp at hb, Nat.le_refl _, h⟩
    · cases h
  | panic x =>
    rw [ho] at h
    simp only at h
    split at h
    · rename_i t v hx
      exact .inr ⟨_, [], panic_sound ho hx, h⟩
    · cases h
  | next x s =>
    rw [ho] at h
    simp only at h
    split at h
    · rename_i k hx
      split at h
      · rename_i u p hb
        rcases condO_some h with ⟨ht, h⟩ | ⟨ht, h⟩
        · exact .inl ⟨_, _, _, st.nb, next_some ho hx hb (of_decide_eq_true ht), fun j b hj => by simp at hj; simp [hj], Nat.le_refl _, h⟩
        · exact .inl ⟨_, [], [k], st.nb, next_none ho hx hb (of_decide_eq_false ht), fun j b hj => by simp at hj, Nat.le_refl _, h⟩
      · cases h
    · cases h
  | _ => rw [ho] at h gen; exact .inl (gen _ rfl h)

theorem lk_cons_same (fr : List (Nat × AV)) (s : Nat) (v : AV) (h : lk fr s = v) : lk ((s, v) :: fr) = lk fr := by
  funext j
  rw [lk_cons]
  split
  · rename_i e; rw [e, h]
  · rfl

/-- the state that follows a list of operations, or the operation among them that panics -/
structure OpsIs (P : Program) (nt : Nat) (ops : Array Oper) (os : List Oper) (st : St) (lg : List (List Nat × List Nat)) (KP : List Oper → Value → List Nat → St → List (List Nat × List Nat) → Option A) (K : St → List (List Nat × List Nat) → Option A) (a : A) : Prop where
  ex : (∃ tr st', Traced P nt ops os (lk st.R) st.B tr (lk st'.R) st'.B ∧ K st' ((tr.map fun t => (t.rd, t.e.map (·.1))).reverse ++ lg) = some a ∧ st'.tl = st.tl ∧ st'.bt = st.bt ∧ st.nb ≤ st'.nb) ∨
    ∃ pre o post tr st' v rd, os = pre ++ o :: post ∧ Traced P nt ops pre (lk st.R) st.B tr (lk st'.R) st'.B ∧ gOk ops o (lk st'.R) true ∧ PanOk P o (evG (lk st'.R)) st'.B v rd ∧
      KP post v rd st' ((tr.map fun t => (t.rd, t.e.map (·.1))).reverse ++ lg) = some a ∧ st'.tl = st.tl ∧ st'.bt = st.bt ∧ st.nb ≤ st'.nb

theorem evOps_sound (hΓ : ∀ f F, cx.Γ f = some F → DenF cx.P f F) (hΨ : ∀ f F, cx.Ψ f = some F → DenP cx.P f F) (hinl : InlOk cx.P inl) {nt : Nat} {ops : Array Oper} {KP : List Oper → Value → List Nat → St → List (List Nat × List Nat) → Option A} {K : St → List (List Nat × List Nat) → Option A} {a : A} : ∀ (os : List Oper) (st : St) (lg : List (List Nat × List Nat)), evOps cx inl nt ops KP K os st lg = some a → OpsIs cx.P nt ops os st lg KP K a
  | [], st, lg, h => ⟨.inl ⟨[], st, ⟨rfl, rfl, rfl⟩, by simpa [evOps] using h, rfl, rfl, Nat.le_refl _⟩⟩
  | o :: os, st, lg, h => by
    have more : ∀ (t : TrE) (fr' : List (Nat × AV)) (nb : Nat), lk (fr' ++ st.tl) = lk st.R → Local1 cx.P ops o (lk st.R) st.B t → st.nb ≤ nb → evOps cx inl nt ops KP K os ⟨putD nt fr' o.dst t.v, st.tl, appL st.bx t.e, st.bt, nb⟩ ((t.rd, t.e.map (·.1)) :: lg) = some a → OpsIs cx.P nt ops (o :: os) st lg KP K a := by
      intro t fr' nb hfr hl hnb h
      have e2 : lk (St.R ⟨putD nt fr' o.dst t.v, st.tl, appL st.bx t.e, st.bt, nb⟩) = putG nt (lk st.R) o.dst t.v := by rw [← hfr]; exact lk_putD nt fr' st.tl o.dst t.v
      have e3 : St.B ⟨putD nt fr' o.dst t.v, st.tl, appL st.bx t.e, st.bt, nb⟩ = appL st.B t.e := appL_append t.e st.bx st.bt
      rcases (evOps_sound hΓ hΨ hinl os _ _ h).ex with ⟨tr, st', h5, h6, h7, h8, h9⟩ | ⟨pre, o', post, tr, st', v, rd, h5, h6, h7, h8, h9, h10, h11, h12⟩
      · rw [e2, e3] at h5
        exact ⟨.inl ⟨t :: tr, st', ⟨_, tr, rfl, hl, h5⟩, by simpa using h6, h7, h8, Nat.le_trans hnb h9⟩⟩
      · rw [e2, e3] at h6
        exact ⟨.inr ⟨o :: pre, o', post, t :: tr, st', v, rd, by rw [h5]; rfl, ⟨_, tr, rfl, hl, h6⟩, h7, h8, by simpa using h9, h10, h11, Nat.le_trans hnb h12⟩⟩
    have run : ∀ (fr' : List (Nat × AV)), lk (fr' ++ st.tl) = lk st.R → gOk ops o (lk st.R) true →
        (evOne cx inl o ⟨fr', st.tl, st.bx, st.bt, st.nb⟩ (fun r e rd nb => evOps cx inl nt ops KP K os ⟨putD nt fr' o.dst r, st.tl, appL st.bx e, st.bt, nb⟩ ((rd, e.map (·.1)) :: lg)) (fun v rd => KP os v rd ⟨fr', st.tl, st.bx, st.bt, st.nb⟩ lg)) = some a → OpsIs cx.P nt ops (o :: os) st lg KP K a := by
      intro fr' hfr hg h
      have e1 : lk (St.R ⟨fr', st.tl, st.bx, st.bt, st.nb⟩) = lk st.R := hfr
      rcases evOne_sound hΓ hΨ hinl h with ⟨r, e, rd, nb, h1, h2, h3, h4⟩ | ⟨v, rd, h1, h2⟩
      · rw [e1] at h1
        exact more ⟨true, r, e, rd⟩ fr' nb hfr ⟨hg, fun _ => h1, (fun h => by cases h), h2⟩ h3 h4
      · rw [e1] at h1
        exact ⟨.inr ⟨[], o, os, [], ⟨fr', st.tl, st.bx, st.bt, st.nb⟩, v, rd, rfl, ⟨rfl, e1, rfl⟩, by rw [e1]; exact hg, by rw [e1]; exact h1, by simpa using h2, rfl, rfl, Nat.le_refl _⟩⟩
    have skip : ∀ (fr' : List (Nat × AV)), lk (fr' ++ st.tl) = lk st.R → gOk ops o (lk st.R) false → evOps cx inl nt ops KP K os ⟨putD nt fr' o.dst (.lit undef), st.tl, st.bx, st.bt, st.nb⟩ (([], []) :: lg) = some a → OpsIs cx.P nt ops (o :: os) st lg KP K a := by
      intro fr' hfr hg h
      exact more ⟨false, .lit undef, [], []⟩ fr' st.nb hfr ⟨hg, (fun h => by cases h), fun _ => ⟨rfl, rfl, rfl⟩, fun k b hb => by simp at hb⟩ (Nat.le_refl _) h
    unfold evOps at h
    split at h
    · rename_i hg
      exact run st.fr rfl (by unfold gOk; rw [hg]) h
    · rename_i j want hg
      split at h
      · cases h
      · rename_i s hs
        split at h
        · rename_i b hb
          have hgok : gOk ops o (lk st.R) (b == want) := by unfold gOk; rw [hg]; exact ⟨s, hs, .inl ⟨b, hb, rfl⟩⟩
          have hsame : lk (((s, AV.lit (.bool b)) :: st.fr) ++ st.tl) = lk st.R := lk_cons_same _ _ _ hb
          split at h
          · rcases condO_some h with ⟨hb', h⟩ | ⟨hb', h⟩ <;> subst hb'
            · exact run _ hsame hgok h
            · exact skip _ hsame hgok h
          · rcases condO_some h with ⟨hb', h⟩ | ⟨hb', h⟩ <;> subst hb'
            · exact skip _ hsame hgok h
            · exact run _ hsame hgok h
        · rename_i vs hb
          exact skip st.fr rfl (by unfold gOk; rw [hg]; exact ⟨s, hs, .inr ⟨_, hb, (fun b e => by cases e), rfl⟩⟩) h
        · cases h
end
end Go.Cm
