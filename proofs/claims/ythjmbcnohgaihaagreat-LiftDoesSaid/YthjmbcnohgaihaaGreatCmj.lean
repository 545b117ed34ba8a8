/- The abstract machine, third state, part 19: the operations of a region, one after the other, as a function. No condition. -/
import Derived.Test.YthjmbcnohgaihaaGreatCmi
namespace Go.Cm
open Go.RowKit
set_option linter.unusedSectionVars false

/-! ways, what follows, rounds; where the machine does not go on -/
abbrev bad {α : Type} (_ : Nat) : Option α := none
abbrev condO {α : Type} (b : Bool) (x y : α) : α := cond b x y
abbrev bindO {α β : Type} (x : Option α) (f : α → Option β) : Option β := Option.bind x f
abbrev caseO {α β γ : Type} (o : Sum α β) (f : α → γ) (g : β → γ) : γ := Sum.elim f g o
def whileF {σ ρ : Type} (N : Nat) (body : σ → Option (Sum σ ρ)) (s : σ) : Option ρ :=
  Nat.rec (motive := fun _ => σ → Option ρ) (fun _ => none) (fun _ ih s => Option.bind (body s) fun o => Sum.elim ih some o) N s
theorem whileF_zero {σ ρ : Type} (body : σ → Option (Sum σ ρ)) (s : σ) : whileF 0 body s = none := rfl
theorem whileF_succ {σ ρ : Type} (N : Nat) (body : σ → Option (Sum σ ρ)) (s : σ) : whileF (N + 1) body s = Option.bind (body s) fun o => Sum.elim (whileF N body) some o := rfl
theorem condO_some {α : Type} {b : Bool} {x y : Option α} {a : α} (h : condO b x y = some a) : (b = true ∧ x = some a) ∨ (b = false ∧ y = some a) := by
  cases b
  · exact .inr ⟨rfl, h⟩
  · exact .inl ⟨rfl, h⟩
theorem bindO_some {α β : Type} {x : Option α} {f : α → Option β} {b : β} (h : bindO x f = some b) : ∃ a, x = some a ∧ f a = some b := Option.bind_eq_some_iff.1 h

variable [Sig]
structure Ctx where
  P : Program
  N : Nat
  Γ : FuncId → Option Fun
def isNil : Box → Bool
  | .nil => true
  | _ => false
theorem isNil_spec {b : Box} (h : isNil b = true) : b = .nil := by cases b <;> first | rfl | cases h
def withB {A : Type} (c : Option Bool) (k : Option A) : Option A := match c with | none => k | some b => condO b k none
theorem withB_some {A : Type} {c : Option Bool} {k : Option A} {a : A} (h : withB c k = some a) : CondP c ∧ k = some a := by
  cases c with
  | none => exact ⟨trivial, h⟩
  | some b => rcases condO_some h with ⟨h1, h2⟩ | ⟨_, h2⟩
              · exact ⟨h1, h2⟩
              · cases h2
def topOf (nb : Nat) : List (Nat × Box) → Nat
  | [] => nb
  | (k, _) :: e => topOf (max nb (k + 1)) e
theorem topOf_le : ∀ (e : List (Nat × Box)) (nb : Nat), nb ≤ topOf nb e
  | [], _ => Nat.le_refl _
  | (k, _) :: e, nb => Nat.le_trans (Nat.le_max_left _ _) (topOf_le e _)
def newChk (B : Bxs) (e : List (Nat × Box)) (rd : List Nat) : Bool := e.all fun p => rd.contains p.1 || isNil (bget B p.1)
theorem newChk_spec {B : Bxs} {e : List (Nat × Box)} {rd : List Nat} (h : newChk B e rd = true) : ∀ k b, (k, b) ∈ e → k ∈ rd ∨ bget B k = .nil := fun k b hb => by
  have := List.all_eq_true.1 h _ hb
  simp only [Bool.or_eq_true, List.contains_iff_mem] at this
  exact this.imp id isNil_spec
/-- new contents of rows get a name -/
def shareE {A : Type} : List (Nat × Box) → (List (Nat × Box) → Option A) → Option A
  | [], k => k []
  | (j, b) :: e, k => match b with
    | .row full et q => bindO (some q.l) fun l => shareE e fun e' => k ((j, .row full et ⟨q.e, l⟩) :: e')
    | b => shareE e fun e' => k ((j, b) :: e')
theorem shareE_eq {A : Type} : ∀ (e : List (Nat × Box)) (k : List (Nat × Box) → Option A), shareE e k = k e
  | [], _ => rfl
  | (j, b) :: e, k => by
    unfold shareE
    split
    · simp only [bindO, Option.bind_some]
      exact shareE_eq e _
    · exact shareE_eq e _
def resK {A : Type} (st : St) (K : AV → List (Nat × Box) → List Nat → Nat → Option A) (res : Res) : Option A :=
  match res with
  | none => bad 1
  | some (cd, r, e, rd) => match newChk st.B e rd && !rd.contains st.nb with
    | true => withB cd (shareE e fun e => K r e rd (topOf st.nb e))
    | false => bad 2

/-! which boxes are handed to a callee whose text is entered -/
def menA : Nat → AV → List Nat
  | 0, _ => []
  | n + 1, t => match t with
    | .agg cs => cs.flatMap (menA n)
    | .tup cs => cs.flatMap (menA n)
    | .clo _ cs => cs.flatMap (menA n)
    | .bnd _ cs => cs.flatMap (menA n)
    | .mp k => [k]
    | .row k => [k]
    | .ptr k _ => [k]
    | .rp k _ _ _ => [k]
    | _ => []
def menB : Box → List Nat
  | .var _ cs => cs.flatMap (menA 3)
  | .tab ts => ts.flatMap fun p => menA 3 p.2
  | _ => []
def ddup : List Nat → List Nat
  | [] => []
  | k :: ks => match (ddup ks).contains k with
    | true => ddup ks
    | false => k :: ddup ks
theorem ddup_mem : ∀ {ks : List Nat} {k : Nat}, k ∈ ks → k ∈ ddup ks
  | j :: ks, k, h => by
    unfold ddup
    split
    · rename_i hc
      rcases List.mem_cons.1 h with rfl | h
      · exact List.contains_iff_mem.1 hc
      · exact ddup_mem h
    · rcases List.mem_cons.1 h with rfl | h
      · exact List.mem_cons_self ..
      · exact List.mem_cons_of_mem _ (ddup_mem h)
theorem ddup_nodup : ∀ (ks : List Nat), nodupB (ddup ks) = true
  | [] => rfl
  | k :: ks => by
    unfold ddup
    split
    · exact ddup_nodup ks
    · rename_i hc
      have : k ∉ ddup ks := fun h => by rw [List.contains_iff_mem.2 h] at hc; cases hc
      simp [nodupB, this, ddup_nodup ks]
def reach (B : Bxs) : Nat → List Nat → List Nat
  | 0, K => K
  | n + 1, K => reach B n (ddup (K ++ K.flatMap fun k => menB (bget B k)))
def restr (K : List Nat) (B : Bxs) : Bxs := K.map fun k => (k, bget B k)
theorem bget_restr (B : Bxs) : ∀ (K : List Nat), bget (restr K B) = onlyK K (bget B)
  | [] => by funext k; simp [restr, bget, onlyK]
  | j :: K => by
    funext k
    have ih := congrFun (bget_restr B K) k
    simp only [restr, List.map_cons, bget, onlyK] at ih ⊢
    by_cases h : j = k
    · subst h; simp
    · rw [if_neg h, ih]
      simp [List.mem_cons, Ne.symm h]
def newIds (n m : Nat) : List Nat := (List.range (m - n)).map (· + n)

abbrev Inl (A : Type) := FuncId → List AV → Bxs → Nat → (AV → Bxs → Nat → Option A) → Option A
def InlOk (P : Program) {A : Type} (inl : Inl A) : Prop :=
  ∀ f args bi nb k a, (∀ j, (bget bi j).made → j < nb) → inl f args bi nb k = some a → ∃ r pu nb', DenB P f (bget bi) args r (bget (pu ++ bi)) ∧ nb ≤ nb' ∧ k r pu nb' = some a

def evCallF {A : Type} (F : Fun) (st : St) (args : List AV) (K : AV → List (Nat × Box) → List Nat → Nat → Option A) : Option A :=
  match cellsOf F.pars args st.B with
  | none => bad 3
  | some (cs, ks) => match apF F.pars F.fn cs with
    | none => bad 4
    | some o => bindO o fun r =>
      match litA 4 (oneA (resL F.ress F.own (encR F.ress r) st.nb).1) with
      | true => K (oneA (resL F.ress F.own (encR F.ress r) st.nb).1) [] ks st.nb
      | false =>
        match litR (keys (resL F.ress F.own (encR F.ress r) st.nb).2) 4 (oneA (resL F.ress F.own (encR F.ress r) st.nb).1) && (keys (resL F.ress F.own (encR F.ress r) st.nb).2).all (fun k => plainRow (appE nilB (resL F.ress F.own (encR F.ress r) st.nb).2 k) && (!ks.contains k && isNil (bget st.B k))) with
        | true => K (oneA (resL F.ress F.own (encR F.ress r) st.nb).1) (resL F.ress F.own (encR F.ress r) st.nb).2 ks (st.nb + (resL F.ress F.own (encR F.ress r) st.nb).2.length)
        | false =>
          match (keys (resL F.ress F.own (encR F.ress r) st.nb).2).all (fun k => !(ddup ks).contains k && (isNil (bget st.B k) && boxInK (keys (resL F.ress F.own (encR F.ress r) st.nb).2) (appE nilB (resL F.ress F.own (encR F.ress r) st.nb).2 k))) &&
            inK (keys (resL F.ress F.own (encR F.ress r) st.nb).2) 4 (oneA (resL F.ress F.own (encR F.ress r) st.nb).1) with
          | true => K (oneA (resL F.ress F.own (encR F.ress r) st.nb).1) (frzE st.B (ddup ks) ++ (resL F.ress F.own (encR F.ress r) st.nb).2) (ddup ks) (st.nb + (resL F.ress F.own (encR F.ress r) st.nb).2.length)
          | false => bad 5
def evCallI {A : Type} (inl : Inl A) (f : FuncId) (st : St) (args : List AV) (K : AV → List (Nat × Box) → List Nat → Nat → Option A) : Option A :=
  let Kb := reach st.B 3 (ddup (args.flatMap (menA 4)))
  match args.all (inK Kb 4) && (Kb.all (fun k => boxInK Kb (bget st.B k) && decide (k < st.nb))) with
  | false => bad 6
  | true => inl f args (restr Kb st.B) st.nb fun r pu nb' =>
    let M := ddup (keys pu)
    let Q := Kb ++ M.filter fun k => !Kb.contains k
    match Q.all (fun k => boxInK Q (bget (pu ++ restr Kb st.B) k)) && (inK Q 4 r && M.all (fun k => Kb.contains k || isNil (bget st.B k))) with
    | false => bad 7
    | true => K r (M.map fun k => (k, bget (pu ++ restr Kb st.B) k)) Kb nb'
/-- one operation, and what follows -/
def evOne {A : Type} (cx : Ctx) (inl : Inl A) (o : Oper) (st : St) (K : AV → List (Nat × Box) → List Nat → Nat → Option A) : Option A :=
  match o.op with
  | .call c => match c.callee with
    | .value x => match evA st.R x with
      | .clo f caps => match cx.Γ f with
        | some F => match caps with
          | [] => evCallF F st (c.args.toList.map (evA st.R)) K
          | _ :: _ => bad 8
        | none => evCallI inl f st (c.args.toList.map (evA st.R) ++ caps) K
      | .bnd f fi => evCallI inl f st (fi ++ c.args.toList.map (evA st.R)) K
      | _ => bad 9
    | .builtin b => resK st K (builtinF cx.P b (c.args.toList.map (evA st.R)) c.argTypes.toList st.B st.nb)
    | _ => bad 10
  | .pick c a b => match evA st.R c with
    | .lit (.bool t) => condO t (K (evA st.R a) [] [] st.nb) (K (evA st.R b) [] [] st.nb)
    | _ => bad 11
  | op => resK st K (opF cx.P op o.type (evA st.R) st.B st.nb)

def evOps {A : Type} (cx : Ctx) (inl : Inl A) (nt : Nat) (ops : Array Oper) (K : St → List (List Nat × List Nat) → Option A) : List Oper → St → List (List Nat × List Nat) → Option A
  | [], st, lg => K st lg
  | o :: os, st, lg =>
    match o.guard with
    | none => evOne cx inl o st fun r e rd nb => evOps cx inl nt ops K os ⟨putD nt st.fr o.dst r, st.tl, appL st.bx e, st.bt, nb⟩ ((rd, e.map (·.1)) :: lg)
    | some (j, want) => match (ops[j]?).bind (·.dst) with
      | none => bad 12
      | some s => match lk st.R s with
        | .lit (.bool b) =>
          match want with
          | true => condO b (evOne cx inl o ⟨(s, .lit (.bool true)) :: st.fr, st.tl, st.bx, st.bt, st.nb⟩ fun r e rd nb => evOps cx inl nt ops K os ⟨putD nt ((s, .lit (.bool true)) :: st.fr) o.dst r, st.tl, appL st.bx e, st.bt, nb⟩ ((rd, e.map (·.1)) :: lg))
              (evOps cx inl nt ops K os ⟨putD nt ((s, .lit (.bool false)) :: st.fr) o.dst (.lit undef), st.tl, st.bx, st.bt, st.nb⟩ (([], []) :: lg))
          | false => condO b (evOps cx inl nt ops K os ⟨putD nt ((s, .lit (.bool true)) :: st.fr) o.dst (.lit undef), st.tl, st.bx, st.bt, st.nb⟩ (([], []) :: lg))
              (evOne cx inl o ⟨(s, .lit (.bool false)) :: st.fr, st.tl, st.bx, st.bt, st.nb⟩ fun r e rd nb => evOps cx inl nt ops K os ⟨putD nt ((s, .lit (.bool false)) :: st.fr) o.dst r, st.tl, appL st.bx e, st.bt, nb⟩ ((rd, e.map (·.1)) :: lg))
        | .lit (.tuple _) => evOps cx inl nt ops K os ⟨putD nt st.fr o.dst (.lit undef), st.tl, st.bx, st.bt, st.nb⟩ (([], []) :: lg)
        | _ => bad 13

/-! what they say -/
theorem newIds_mem {n m k : Nat} (h : k ∈ newIds n m) : n ≤ k := by
  simp only [newIds, List.mem_map] at h
  obtain ⟨i, _, rfl⟩ := h
  omega

section
variable {A : Type} {cx : Ctx} {inl : Inl A}
def OneIs (P : Program) (o : Oper) (st : St) (K : AV → List (Nat × Box) → List Nat → Nat → Option A) (a : A) : Prop :=
  ∃ r e rd nb, LocalOk P o (evG (lk st.R)) st.B r e rd ∧ (∀ k b, (k, b) ∈ e → k ∈ rd ∨ bget st.B k = .nil) ∧ st.nb ≤ nb ∧ K r e rd nb = some a

theorem LocalOk.congrE {P : Program} {o : Oper} {ev : Operand → AV} {bx : Bxs} {r : AV} {e e' : List (Nat × Box)} {rd : List Nat} (h : LocalOk P o ev bx r e rd) (he : ∀ bx' : Nat → Box, (∀ k, k ∈ rd → bx' k = bget bx k) → appE bx' e = appE bx' e')
    (hn : ∀ k b, (k, b) ∈ e → ∀ bx' : Nat → Box, (∀ k b, (k, b) ∈ e' → k ∈ rd ∨ bx' k = .nil) → k ∈ rd ∨ bx' k = .nil) : LocalOk P o ev bx r e' rd := by
  intro w ρ bx' a K Q hag hnew hs hr hK
  refine h w ρ bx' a K Q hag (fun k b hb => hn k b hb bx' hnew) hs hr fun v' w' ρ' g1 g2 g3 => ?_
  rw [he bx' hag] at g1 g2 g3
  exact hK v' w' ρ' g1 g2 g3

theorem evOne_sound (hΓ : ∀ f F, cx.Γ f = some F → DenF cx.P f F) (hinl : InlOk cx.P inl) {o : Oper} {st : St} {K : AV → List (Nat × Box) → List Nat → Nat → Option A} {a : A} (h : evOne cx inl o st K = some a) : OneIs cx.P o st K a := by
  unfold OneIs
  rw [← evA_eq]
  have gen : ∀ res, opF cx.P o.op o.type (evA st.R) st.B st.nb = res → resK st K res = some a → ∃ r e rd nb, LocalOk cx.P o (evA st.R) st.B r e rd ∧ (∀ k b, (k, b) ∈ e → k ∈ rd ∨ bget st.B k = .nil) ∧ st.nb ≤ nb ∧ K r e rd nb = some a := by
    intro res hres h
    unfold resK at h
    split at h
    · cases h
    · rename_i cd r e rd
      split at h
      · rename_i hchk
        simp only [Bool.and_eq_true, Bool.not_eq_true', List.contains_eq_mem, decide_eq_false_iff_not] at hchk
        obtain ⟨h1, h2⟩ := withB_some h
        rw [shareE_eq] at h2
        exact ⟨r, e, rd, _, opF_sound hres h1 hchk.2, newChk_spec hchk.1, topOf_le _ _, h2⟩
      · cases h
  have ent : ∀ (f : FuncId) (L : List AV), CallsWith cx.P o (evA st.R) f L → evCallI inl f st L K = some a → ∃ r e rd nb, LocalOk cx.P o (evA st.R) st.B r e rd ∧ (∀ k b, (k, b) ∈ e → k ∈ rd ∨ bget st.B k = .nil) ∧ st.nb ≤ nb ∧ K r e rd nb = some a := by
    intro f L hex h
    unfold evCallI at h
    simp only at h
    split at h
    · cases h
    · rename_i hchk
      simp only [Bool.and_eq_true] at hchk
      obtain ⟨hargs, hK⟩ := hchk
      generalize hKb : reach st.B 3 (ddup (L.flatMap (menA 4))) = Kb at *
      have hK' : ∀ k, k ∈ Kb → boxInK Kb (bget st.B k) = true ∧ k < st.nb := fun k hk => by
        have := List.all_eq_true.1 hK k hk
        simpa only [Bool.and_eq_true, decide_eq_true_eq] using this
      replace h := hinl _ _ _ _ _ _ (fun j hj => by
        rw [bget_restr] at hj
        unfold onlyK at hj
        split at hj
        · rename_i hm; exact (hK' j hm).2
        · exact hj.elim) h
      obtain ⟨r, pu, nb', hden, hle, h⟩ := h
      split at h
      · cases h
      · rename_i hchk
        simp only [Bool.and_eq_true] at hchk
        obtain ⟨hbo, hr, hN⟩ := hchk
        rw [bget_restr] at hden
        have hM : ∀ k, k ∈ ddup (keys pu) → k ∈ Kb ∨ bget st.B k = .nil := fun k hk => by
          have := List.all_eq_true.1 hN k hk
          simp only [Bool.or_eq_true, List.contains_iff_mem] at this
          exact this.imp id isNil_spec
        have hNK : ∀ k, k ∈ (ddup (keys pu)).filter (fun k => !Kb.contains k) → k ∉ Kb := fun k hk hm => by
          have := (List.mem_filter.1 hk).2
          simp [hm] at this
        have hloc := callB_sound hex hden hargs (List.all_eq_true.2 fun k hk => (hK' k hk).1) hNK hbo hr
        refine ⟨r, _, Kb, nb', hloc.congrE ?_ ?_, fun k b hb => ?_, hle, h⟩
        · intro bx' hag
          rw [appE_map, appE_map]
          funext k
          unfold joinK
          by_cases hkM : k ∈ ddup (keys pu)
          · rw [if_pos hkM]
            by_cases hkK : k ∈ Kb
            · rw [if_pos (List.mem_append_left _ hkK)]
            · rw [if_pos (List.mem_append_right _ (List.mem_filter.2 ⟨hkM, by simp [hkK]⟩))]
          · rw [if_neg hkM]
            by_cases hkK : k ∈ Kb
            · rw [if_pos (List.mem_append_left _ hkK), hag k hkK]
              rcases bget_append pu (restr Kb st.B) k with h1 | ⟨_, h1⟩
              · exact absurd (ddup_mem (List.mem_map.2 ⟨_, h1, rfl⟩)) hkM
              · rw [h1, bget_restr]; exact if_pos hkK
            · rw [if_neg (fun hm => by
                rcases List.mem_append.1 hm with hm | hm
                · exact hkK hm
                · exact hkM (List.mem_filter.1 hm).1)]
        · intro k b hb bx' hnew
          obtain ⟨j, hj, he⟩ := List.mem_map.1 hb
          injection he with e1 e2
          subst e1
          rcases List.mem_append.1 hj with hj | hj
          · exact .inl hj
          · exact hnew j _ (List.mem_map.2 ⟨j, (List.mem_filter.1 hj).1, rfl⟩)
        · obtain ⟨j, hj, he⟩ := List.mem_map.1 hb
          injection he with e1 e2
          subst e1
          exact hM j hj
  unfold evOne at h
  cases ho : o.op with
  | call c =>
    rw [ho] at h gen
    simp only at h
    split at h
    · rename_i x hc
      split at h
      · rename_i f caps hx
        split at h
        · rename_i F hF
          split at h
          · -- by contract
            unfold evCallF at h
            split at h
            · cases h
            · rename_i cs ks hcs
              split at h
              · cases h
              · rename_i oo hap
                replace h := bindO_some h
                obtain ⟨r, hr, h⟩ := h
                subst hr
                split at h
                · rename_i hlit
                  exact ⟨_, [], ks, st.nb, callP_sound ho hc hx (hΓ f F hF) hcs hap hlit, fun k b hb => by simp at hb, Nat.le_refl _, h⟩
                · split at h
                  · rename_i hchk
                    simp only [Bool.and_eq_true] at hchk
                    obtain ⟨hlr, hk⟩ := hchk
                    have hk' : ∀ k, k ∈ keys (resL F.ress F.own (encR F.ress r) st.nb).2 → plainRow (appE nilB (resL F.ress F.own (encR F.ress r) st.nb).2 k) = true ∧ k ∉ ks ∧ bget st.B k = .nil := fun k hm => by
                      have := List.all_eq_true.1 hk k hm
                      simp only [Bool.and_eq_true, Bool.not_eq_true', List.contains_eq_mem, decide_eq_false_iff_not] at this
                      exact ⟨this.1, this.2.1, isNil_spec this.2.2⟩
                    exact ⟨_, _, ks, _, callO_sound ho hc hx (hΓ f F hF) hcs hap (fun k hm => (hk' k hm).2.1) (List.all_eq_true.2 fun k hm => (hk' k hm).1) hlr, fun k b hb => .inr (hk' k (List.mem_map.2 ⟨(k, b), hb, rfl⟩)).2.2, Nat.le_add_right _ _, h⟩
                  · split at h
                    · rename_i hchk
                      simp only [Bool.and_eq_true] at hchk
                      obtain ⟨hk, hin⟩ := hchk
                      have hk' : ∀ k, k ∈ keys (resL F.ress F.own (encR F.ress r) st.nb).2 → k ∉ ddup ks ∧ bget st.B k = .nil ∧ boxInK (keys (resL F.ress F.own (encR F.ress r) st.nb).2) (appE nilB (resL F.ress F.own (encR F.ress r) st.nb).2 k) = true := fun k hm => by
                        have := List.all_eq_true.1 hk k hm
                        simp only [Bool.and_eq_true, Bool.not_eq_true', List.contains_eq_mem, decide_eq_false_iff_not] at this
                        exact ⟨this.1, isNil_spec this.2.1, this.2.2⟩
                      refine ⟨_, _, ddup ks, _, callF_sound ho hc hx (hΓ f F hF) hcs (fun k hk => ddup_mem hk) hap (ddup_nodup ks) (fun k hm => (hk' k hm).1) (List.all_eq_true.2 fun k hm => (hk' k hm).2.2) hin, fun k b hb => ?_, Nat.le_add_right _ _, h⟩
                      rcases List.mem_append.1 hb with hb | hb
                      · exact .inl (frzE_keys hb)
                      · exact .inr (hk' k (List.mem_map.2 ⟨(k, b), hb, rfl⟩)).2.1
                    · cases h
          · cases h
        · exact ent f _ (CallsWith.clo ho hc hx) h
      · rename_i f fi hx
        exact ent f _ (CallsWith.bnd ho hc hx) h
      · cases h
    · rename_i b hc
      refine gen (builtinF cx.P b (c.args.toList.map (evA st.R)) c.argTypes.toList st.B st.nb) ?_ h
      simp only [opF, hc]
    · cases h
  | pick c x y =>
    rw [ho] at h gen
    simp only at h
    split at h
    · rename_i t hc
      have hp : ∀ b, b = t → LocalOk cx.P o (evA st.R) st.B (match b with | true => evA st.R x | false => evA st.R y) [] [] := fun b hb => by
        refine pick_sound (c := none) ho ?_
        rw [hc, ← hb]; rfl
      rcases condO_some h with ⟨ht, h⟩ | ⟨ht, h⟩
      · exact ⟨_, [], [], st.nb, hp true ht.symm, fun k b hb => by simp at hb, Nat.le_refl _, h⟩
      · exact ⟨_, [], [], st.nb, hp false ht.symm, fun k b hb => by simp at hb, Nat.le_refl _, h⟩
    · cases h
  | _ => rw [ho] at h gen; exact gen _ rfl h

theorem lk_cons_same (fr : List (Nat × AV)) (s : Nat) (v : AV) (h : lk fr s = v) : lk ((s, v) :: fr) = lk fr := by
  funext j
  rw [lk_cons]
  split
  · rename_i e; rw [e, h]
  · rfl

/-- the state that follows a list of operations -/
structure OpsIs (P : Program) (nt : Nat) (ops : Array Oper) (os : List Oper) (st : St) (lg : List (List Nat × List Nat)) (K : St → List (List Nat × List Nat) → Option A) (a : A) : Prop where
  ex : ∃ tr st', Traced P nt ops os (lk st.R) st.B tr (lk st'.R) st'.B ∧ K st' ((tr.map fun t => (t.rd, t.e.map (·.1))).reverse ++ lg) = some a ∧ st'.tl = st.tl ∧ st'.bt = st.bt ∧ st.nb ≤ st'.nb

theorem evOps_sound (hΓ : ∀ f F, cx.Γ f = some F → DenF cx.P f F) (hinl : InlOk cx.P inl) {nt : Nat} {ops : Array Oper} {K : St → List (List Nat × List Nat) → Option A} {a : A} : ∀ (os : List Oper) (st : St) (lg : List (List Nat × List Nat)), evOps cx inl nt ops K os st lg = some a → OpsIs cx.P nt ops os st lg K a
  | [], st, lg, h => ⟨[], st, ⟨rfl, rfl, rfl⟩, by simpa [evOps] using h, rfl, rfl, Nat.le_refl _⟩
  | o :: os, st, lg, h => by
    have run : ∀ (fr' : List (Nat × AV)), lk (fr' ++ st.tl) = lk st.R → gOk ops o (lk st.R) true →
        (evOne cx inl o ⟨fr', st.tl, st.bx, st.bt, st.nb⟩ fun r e rd nb => evOps cx inl nt ops K os ⟨putD nt fr' o.dst r, st.tl, appL st.bx e, st.bt, nb⟩ ((rd, e.map (·.1)) :: lg)) = some a → OpsIs cx.P nt ops (o :: os) st lg K a := by
      intro fr' hfr hg h
      obtain ⟨r, e, rd, nb, h1, h2, h3, h4⟩ := evOne_sound hΓ hinl h
      obtain ⟨tr, st', h5, h6, h7, h8, h9⟩ := (evOps_sound hΓ hinl os _ _ h4).ex
      have e1 : lk (St.R ⟨fr', st.tl, st.bx, st.bt, st.nb⟩) = lk st.R := hfr
      have e2 : lk (St.R ⟨putD nt fr' o.dst r, st.tl, appL st.bx e, st.bt, nb⟩) = putG nt (lk st.R) o.dst r := by rw [← hfr]; exact lk_putD nt fr' st.tl o.dst r
      have e3 : St.B ⟨putD nt fr' o.dst r, st.tl, appL st.bx e, st.bt, nb⟩ = appL st.B e := appL_append e st.bx st.bt
      rw [e1] at h1
      rw [e2, e3] at h5
      exact ⟨⟨true, r, e, rd⟩ :: tr, st', ⟨_, tr, rfl, ⟨hg, fun _ => h1, (fun h => by cases h), h2⟩, h5⟩, by simpa using h6, h7, h8, Nat.le_trans h3 h9⟩
    have skip : ∀ (fr' : List (Nat × AV)), lk (fr' ++ st.tl) = lk st.R → gOk ops o (lk st.R) false → evOps cx inl nt ops K os ⟨putD nt fr' o.dst (.lit undef), st.tl, st.bx, st.bt, st.nb⟩ (([], []) :: lg) = some a → OpsIs cx.P nt ops (o :: os) st lg K a := by
      intro fr' hfr hg h
      obtain ⟨tr, st', h5, h6, h7, h8, h9⟩ := (evOps_sound hΓ hinl os _ _ h).ex
      have e2 : lk (St.R ⟨putD nt fr' o.dst (.lit undef), st.tl, st.bx, st.bt, st.nb⟩) = putG nt (lk st.R) o.dst (.lit undef) := by rw [← hfr]; exact lk_putD nt fr' st.tl o.dst _
      rw [e2] at h5
      exact ⟨⟨false, .lit undef, [], []⟩ :: tr, st', ⟨_, tr, rfl, ⟨hg, (fun h => by cases h), fun _ => ⟨rfl, rfl, rfl⟩, fun k b hb => by simp at hb⟩, h5⟩, by simpa using h6, h7, h8, h9⟩
    unfold evOps at h
    split at h
    · rename_i hg
      exact run st.fr rfl (by unfold gOk; rw [hg]) h
    · rename_i j want hg
      split at h
      · cases h
      · rename_i s hs
        split at h
        · rename_i b hb
          have hgok : gOk ops o (lk st.R) (b == want) := by unfold gOk; rw [hg]; exact ⟨s, hs, .inl ⟨b, hb, rfl⟩⟩
          have hsame : lk (((s, AV.lit (.bool b)) :: st.fr) ++ st.tl) = lk st.R := lk_cons_same _ _ _ hb
          split at h
          · rcases condO_some h with ⟨hb', h⟩ | ⟨hb', h⟩ <;> subst hb'
            · exact run _ hsame hgok h
            · exact skip _ hsame hgok h
          · rcases condO_some h with ⟨hb', h⟩ | ⟨hb', h⟩ <;> subst hb'
            · exact skip _ hsame hgok h
            · exact run _ hsame hgok h
        · rename_i vs hb
          exact skip st.fr rfl (by unfold gOk; rw [hg]; exact ⟨s, hs, .inr ⟨_, hb, (fun b e => by cases e), rfl⟩⟩) h
        · cases h
end
end Go.Cm
