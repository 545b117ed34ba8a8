/- The abstract machine, part 11: code run by a stack of what is left to do (for the kernel to compute), loops as places to stop at. No condition. -/
import Derived.Test.YtjlhngfmghipoaaAma
namespace Go.Am
open Go.RowKit

abbrev I (n : Int) : AV := .lit (.int .i64 n)
abbrev Bo (b : Bool) : AV := .lit (.bool b)
abbrev Sg (s : ByteArray) : AV := .lit (.string s)

inductive It where
  | code (c : Code)
  | blk (id : Nat)
  | nxt (i : Nat)

section
variable (Γ : Gam) (P : Program) (nt : Nat) (kp : List (Nat × List Nat))

def contQ (Ns : List (St → Prop)) (Q : Exit → St → Prop) : List It → Exit → St → Prop
  | [] => Q
  | .code c :: k => thenA (wpC Γ P nt kp c (contQ Ns Q k)) (contQ Ns Q k)
  | .blk id :: k => blockA id (contQ Ns Q k)
  | .nxt i :: k => thenA (fun s => (Ns.getD i fun _ => False) (trim s)) (contQ Ns Q k)

/-- a loop is reached; k: what follows it -/
structure LoopS (Ns : List (St → Prop)) (Q : Exit → St → Prop) (c : Code) (k : List It) (st : St) : Prop where
  ex : ∀ st0, trim st0 = st → wpC Γ P nt kp (.loop c) (contQ Γ P nt kp Ns Q k) st0

def dropTo (id : Nat) : List It → Option (List It)
  | [] => none
  | .blk id' :: k => if id' = id then some k else dropTo id k
  | _ :: k => dropTo id k

def evS (Ns : List (St → Prop)) (Q : Exit → St → Prop) : Nat → List It → St → Prop
  | 0, _, _ => False
  | _ + 1, [], st => Q .normal st
  | n + 1, .blk _ :: k, st => evS Ns Q n k st
  | _ + 1, .nxt i :: _, st => (Ns.getD i fun _ => False) (trim st)
  | n + 1, .code c :: k, st => match c with
    | .skip => evS Ns Q n k st
    | .label _ => evS Ns Q n k st
    | .region id ops false => wpOpsA Γ P nt ops (fun st' _ => evS Ns Q n k (prune kp id st')) ops.toList st []
    | .region id ops true => br (slotsOk ops) (wpOpsA Γ P nt ops (fun st' lg => br (boxesOk ops lg) (evS Ns Q n k (prune kp id st')) False) ops.toList st []) False
    | .seq a b => evS Ns Q n (.code a :: .code b :: k) st
    | .cond c x y => match evA st.fr c with
      | .lit (.bool t) => br t (evS Ns Q n (.code x :: k) st) (evS Ns Q n (.code y :: k) st)
      | _ => False
    | .block id c => evS Ns Q n (.code c :: .blk id :: k) st
    | .loop c => LoopS Γ P nt kp Ns Q c k (trim st)
    | .exit id => match dropTo id k with
      | some k' => evS Ns Q n k' st
      | none => Q (.exit id) st
    | .ret => Q .ret st
    | _ => False
end

section
variable {Γ : Gam} {P : Program} {nt : Nat} {kp : List (Nat × List Nat)}

theorem wpOne_mono {o : Oper} {st : St} {K K' : AV → List (Nat × Box) → List Nat → Prop} (hk : ∀ r e rd, K r e rd → K' r e rd) (h : wpOne Γ P o st K) : wpOne Γ P o st K' := by
  have gen : ∀ res : Res, (match res with | some (cd, r, e, rd) => withC cd (K r e rd) | none => False) → (match res with | some (cd, r, e, rd) => withC cd (K' r e rd) | none => False) := by
    intro res h
    cases res with
    | none => exact h
    | some p =>
      obtain ⟨cd, r, e, rd⟩ := p
      cases cd with
      | none => exact hk _ _ _ h
      | some p => exact ⟨h.1, hk _ _ _ h.2⟩
  unfold wpOne at h ⊢
  cases ho : o.op with
  | call c =>
    rw [ho] at h
    simp only at h ⊢
    cases hc : c.callee with
    | value f =>
      rw [hc] at h
      cases f with
      | func f =>
        simp only at h ⊢
        cases hf : frzL st.bx (c.args.toList.map (evA st.fr)) with
        | none => rw [hf] at h; exact h.elim
        | some args =>
          rw [hf] at h
          simp only at h ⊢
          cases hg : Γ f args with
          | none => rw [hg] at h; exact h.elim
          | some r => rw [hg] at h; exact ⟨h.1, hk _ _ _ h.2⟩
      | _ => exact h.elim
    | invoke => rw [hc] at h; exact h.elim
    | builtin b => rw [hc] at h; exact gen (builtinF P b (c.args.toList.map (evA st.fr)) c.argTypes.toList st.bx) h
  | pick c x y =>
    rw [ho] at h
    simp only at h ⊢
    split
    · rename_i t hc
      rw [hc] at h
      cases t <;> exact hk _ _ _ h
    · rename_i hne
      split at h
      · rename_i t hc; exact (hne t hc).elim
      · exact h.elim
  | _ => have g := gen (opF P o.op (evA st.fr) st.bx); rw [ho] at h g; exact g h

theorem wpOpsA_mono {ops : Array Oper} {K K' : St → List (List Nat × List Nat) → Prop} (hk : ∀ st lg, K st lg → K' st lg) : ∀ (os : List Oper) (st : St) (lg : List (List Nat × List Nat)), wpOpsA Γ P nt ops K os st lg → wpOpsA Γ P nt ops K' os st lg
  | [], st, lg, h => by simp only [wpOpsA] at h ⊢; exact hk _ _ h
  | o :: os, st, lg, h => by
    unfold wpOpsA at h ⊢
    cases hg : o.guard with
    | none => rw [hg] at h; exact wpOne_mono (fun r e rd => wpOpsA_mono hk os _ _) h
    | some p =>
      obtain ⟨j, want⟩ := p
      rw [hg] at h
      simp only at h ⊢
      cases hs : (ops[j]?).bind (·.dst) with
      | none => rw [hs] at h; exact h.elim
      | some s =>
        rw [hs] at h
        simp only at h ⊢
        split
        · rename_i b hb
          rw [hb] at h
          simp only at h
          cases want <;> cases b <;> simp only [br_true, br_false] at h ⊢ <;> first | exact wpOne_mono (fun r e rd => wpOpsA_mono hk os _ _) h | exact wpOpsA_mono hk os _ _ h
        · rename_i vs hb
          rw [hb] at h
          exact wpOpsA_mono hk os _ _ h
        · rename_i h1 h2
          split at h
          · rename_i b hb; exact (h1 b hb).elim
          · rename_i vs hb; exact (h2 vs hb).elim
          · exact h.elim

theorem contQ_exit {Ns : List (St → Prop)} {Q : Exit → St → Prop} {id : Nat} {st : St} : ∀ (k : List It), (∀ k', dropTo id k = some k' → contQ Γ P nt kp Ns Q k' .normal st) → (dropTo id k = none → Q (.exit id) st) → contQ Γ P nt kp Ns Q k (.exit id) st
  | [], _, h => h rfl
  | .code c :: k, h1, h2 => contQ_exit k h1 h2
  | .nxt i :: k, h1, h2 => contQ_exit k h1 h2
  | .blk id' :: k, h1, h2 => by
    simp only [contQ, blockA]
    by_cases he : id = id'
    · rw [if_pos he]
      exact h1 k (by simp only [dropTo]; rw [if_pos he.symm])
    · rw [if_neg he]
      exact contQ_exit k (fun k' hk => h1 k' (by simp only [dropTo]; rw [if_neg (Ne.symm he)]; exact hk)) (fun hk => h2 (by simp only [dropTo]; rw [if_neg (Ne.symm he)]; exact hk))

theorem contQ_ret {Ns : List (St → Prop)} {Q : Exit → St → Prop} {st : St} (h : Q .ret st) : ∀ (k : List It), contQ Γ P nt kp Ns Q k .ret st
  | [] => h
  | .code _ :: k => contQ_ret h k
  | .nxt _ :: k => contQ_ret h k
  | .blk _ :: k => contQ_ret h k

theorem evS_sound {Ns : List (St → Prop)} {Q : Exit → St → Prop} : ∀ (n : Nat) (k : List It) (st : St), evS Γ P nt kp Ns Q n k st → contQ Γ P nt kp Ns Q k .normal st
  | 0, _, _, h => h.elim
  | _ + 1, [], _, h => h
  | n + 1, .blk _ :: k, st, h => evS_sound n k st h
  | _ + 1, .nxt _ :: _, _, h => h
  | n + 1, .code c :: k, st, h => by
    show wpC Γ P nt kp c (contQ Γ P nt kp Ns Q k) st
    unfold evS at h
    cases c with
    | skip => exact evS_sound n k st h
    | label => exact evS_sound n k st h
    | region id ops d =>
      cases d with
      | false =>
        simp only at h
        simp only [wpC]
        exact wpOpsA_mono (fun st' _ hq => evS_sound n k _ hq) _ _ _ h
      | true =>
        simp only at h
        simp only [wpC]
        have tf : ∀ {b : Bool} {x y : Prop}, (x → y) → br b x False → br b y False := fun {b x y} hxy h => by cases b; exact h; exact hxy h
        exact tf (wpOpsA_mono (fun st' _ hq => tf (evS_sound n k _) hq) _ _ _) h
    | seq a b => exact evS_sound n _ st h
    | cond c x y =>
      simp only at h
      simp only [wpC]
      split
      · rename_i t ht
        rw [ht] at h
        cases t
        · exact evS_sound n (.code y :: k) st h
        · exact evS_sound n (.code x :: k) st h
      · rename_i hne
        split at h
        · rename_i t ht; exact (hne t ht).elim
        · exact h.elim
    | block id c => exact evS_sound n _ st h
    | loop c => exact h.ex st rfl
    | exit id =>
      simp only at h
      refine contQ_exit k (fun k' hk => ?_) (fun hk => ?_)
      · rw [hk] at h; exact evS_sound n k' st h
      · rw [hk] at h; exact h
    | ret => exact contQ_ret h k
    | rangeFunc => exact h.elim
    | scope => exact h.elim
    | goto => exact h.elim
    | refuse => exact h.elim

def kOk (n : Nat) : List It → Bool
  | [] => true
  | .nxt i :: k => decide (i < n) && kOk n k
  | _ :: k => kOk n k
theorem contQ_more {Ns Ns' : List (St → Prop)} {Q : Exit → St → Prop} : ∀ (k : List It), kOk Ns.length k = true → contQ Γ P nt kp (Ns ++ Ns') Q k = contQ Γ P nt kp Ns Q k
  | [], _ => rfl
  | .code c :: k, h => by simp only [contQ]; rw [contQ_more k h]
  | .blk id :: k, h => by simp only [contQ]; rw [contQ_more k h]
  | .nxt i :: k, h => by
    simp only [kOk, Bool.and_eq_true, decide_eq_true_eq] at h
    simp only [contQ]
    rw [contQ_more k h.2]
    simp [List.getD, List.getElem?_append_left h.1]

/-- a loop by a relation with a number that goes down -/
theorem LoopS.intro {Ns : List (St → Prop)} {Q : Exit → St → Prop} {c : Code} {k : List It} {st : St} (I : Nat → St → Prop) (n : Nat) (hk : kOk Ns.length k = true) (h0 : I n st)
    (hr : ∀ n s, I n s → ∃ fuel, evS Γ P nt kp (Ns ++ [fun s' => ∃ n', n' < n ∧ I n' s']) Q fuel (.code c :: .nxt Ns.length :: k) s) : LoopS Γ P nt kp Ns Q c k st := by
  refine ⟨fun st0 hst0 => ⟨I, n, by rw [hst0]; exact h0, fun n s hI => ?_⟩⟩
  obtain ⟨fuel, h⟩ := hr n s hI
  have := evS_sound _ _ _ h
  simp only [contQ, thenA] at this
  rw [contQ_more k hk] at this
  simpa using this

def bodyEv (Γ : Gam) (P : Program) (fn : Func) (kp : List (Nat × List Nat)) (args : List AV) (r : AV) : Prop :=
  evS Γ P fn.ntmps kp [] (PostA P fn.results.toList r) 10000 [.code (fn.body.getD (.refuse ""))] ⟨args0 args 0, []⟩
theorem den_of_ev {f : FuncId} {fn : Func} {args : List AV} {r : AV} (hm : P.follows .mixedOrders = true) (hf : P.funcs[f]? = some fn) (hname : (fn.name == "runtime.NumGoroutine") = false)
    (hold : args.all AV.old = true) (hnt : args.length ≤ fn.ntmps) (h : bodyEv Γ P fn kp args r) : Den P f args r := by
  have h := evS_sound _ _ _ h
  cases hb : fn.body with
  | none => rw [hb] at h; exact h.elim
  | some c =>
    rw [hb] at h
    exact den_of_wp kp hm hf hb hname hold hnt h
end
attribute [irreducible] evS bodyEv
end Go.Am
