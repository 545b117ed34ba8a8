/- The abstract machine, part 6: calls by contract ('Den'), the table of operations, traces of a region. No condition. -/
import Derived.Test.YtjlhngfmghipoaaAm5
namespace Go.Am
open Go.RowKit

/-! values without boxes: arguments and results of a call -/
inductive RepP (w : World) (ok : Nat → Prop) : Value → AV → Prop
  | lit (v : Value) : RepP w ok v (.lit v)
  | agg (vs : List Value) (ts : List AV) (hl : vs.length = ts.length) (h : ∀ (i : Nat) (v : Value) (t : AV), vs[i]? = some v → ts[i]? = some t → RepP w ok v t) : RepP w ok (.agg ⟨vs⟩) (.agg ts)
  | tup (vs : List Value) (ts : List AV) (hl : vs.length = ts.length) (h : ∀ (i : Nat) (v : Value) (t : AV), vs[i]? = some v → ts[i]? = some t → RepP w ok v t) : RepP w ok (.tuple ⟨vs⟩) (.tup ts)
  | sl (fl : Bool) (L : List (List Tree)) (v : Value) (h : RepT w ok v (.sl L)) : RepP w ok v (.sl fl L)
def RepPL (w : World) (ok : Nat → Prop) (vs : List Value) (ts : List AV) : Prop :=
  vs.length = ts.length ∧ ∀ (i : Nat) (v : Value) (t : AV), vs[i]? = some v → ts[i]? = some t → RepP w ok v t

theorem RepP.rep {w : World} {ok : Nat → Prop} {B0 : Nat} {ρ : Env} {bx : Nat → Box} (h : ∀ b, ok b → b < w.heap.size → ∀ fl, okS B0 ρ bx fl b) {v : Value} {t : AV} (r : RepP w ok v t) : Rep B0 w ρ bx v t := by
  induction r with
  | lit v => exact .lit v
  | agg vs ts hl _ ih => exact .agg vs ts hl ih
  | tup vs ts hl _ ih => exact .tup vs ts hl ih
  | sl fl L v r => exact .sl fl L v (r.ext fun b hb hlt => ⟨rfl, h b hb hlt fl⟩)

/-- all slices are marked as not made by the call -/
def AV.old1 : AV → Bool
  | .lit _ => true
  | .sl fl _ => !fl
  | _ => false
def AV.old : AV → Bool
  | .agg cs => cs.all AV.old1
  | t => t.old1
theorem RepP.rep_old1 {w : World} {ok : Nat → Prop} {B0 : Nat} {ρ : Env} {bx : Nat → Box} (hbx : ∀ k, ¬ (bx k).alive) {v : Value} {t : AV} (ho : t.old1 = true) (r : RepP w ok v t) : Rep B0 w ρ bx v t := by
  have hm : ∀ b, ¬ Mut ρ bx b := fun b ⟨k, hk⟩ => by
    unfold own at hk
    split at hk
    · rename_i h; exact hbx k (by rw [h]; trivial)
    · rename_i h; exact hbx k (by rw [h]; trivial)
    · cases hk
  cases r with
  | lit v => exact .lit v
  | agg => cases ho
  | tup => cases ho
  | sl fl L v r =>
    refine .sl fl L v (r.ext fun b _ _ => ⟨rfl, hm b, fun hf => ?_⟩)
    subst hf
    cases ho
theorem RepP.rep_old {w : World} {ok : Nat → Prop} {B0 : Nat} {ρ : Env} {bx : Nat → Box} (hbx : ∀ k, ¬ (bx k).alive) {v : Value} {t : AV} (ho : t.old = true) (r : RepP w ok v t) : Rep B0 w ρ bx v t := by
  cases r with
  | lit v => exact .lit v
  | agg vs ts hl h =>
    refine .agg vs ts hl fun i v t h1 h2 => (h i v t h1 h2).rep_old1 hbx ?_
    exact List.all_eq_true.1 ho t (List.mem_of_getElem? h2)
  | tup => cases ho
  | sl fl L v r => exact RepP.rep_old1 hbx ho (.sl fl L v r)

def Callable (P : Program) (f : FuncId) : Prop := ∃ fn, P.funcs[f]? = some fn ∧ fn.body.isSome = true ∧ (fn.name == "runtime.NumGoroutine") = false

/-- the contract: function f, called with these values, returns r, in new memory, and leaves all memory as it was -/
structure Den (P : Program) (f : FuncId) (args : List AV) (r : AV) : Prop where
  can : Callable P f
  calls : ∀ (w : World) (vs : List Value), RepPL w (fun _ => True) vs args →
    Calls P f ⟨vs⟩ w fun e w' => ∃ v, e = .returned v ∧ RepP w' (fun b => w.heap.size ≤ b) v r ∧ Below w.heap.size w w'

/-! what a value reads as for a callee -/
def frz1 (bx : List Box) : AV → Option AV
  | .lit v => some (.lit v)
  | .sl _ L => some (.sl false L)
  | .e0 => some (.sl false [])
  | .row k => match bget bx k with
    | .row _ _ _ L => some (.sl false L)
    | _ => none
  | _ => none
def frzs (bx : List Box) : List AV → Option (List AV)
  | [] => some []
  | t :: ts => match frz1 bx t, frzs bx ts with
    | some a, some r => some (a :: r)
    | _, _ => none
def frz (bx : List Box) : AV → Option AV
  | .agg cs => match frzs bx cs with
    | some r => some (.agg r)
    | none => none
  | t => frz1 bx t
def frzL (bx : List Box) : List AV → Option (List AV)
  | [] => some []
  | t :: ts => match frz bx t, frzL bx ts with
    | some a, some r => some (a :: r)
    | _, _ => none
def rd1 : AV → List Nat
  | .row k => [k]
  | _ => []
def rdA : AV → List Nat
  | .agg cs => cs.flatMap rd1
  | t => rd1 t

theorem row_repT {B0 : Nat} {w : World} {ρ : Env} {bx : Nat → Box} {k : Nat} {fl : Bool} {e sz : Nat} {L : List (List Tree)} (h : SimBox B0 w ρ bx k (.row fl e sz L)) {ok : Nat → Prop} (hok : ∀ b, B0 ≤ b → ok b) (hok' : ∀ b, okS B0 ρ bx fl b → ok b) : RepT w ok (ρ.hd k) (.sl L) := by
  obtain ⟨xs, hown, hsz, hr, _⟩ := h
  have hmono : ∀ {v t}, RepT w (okS B0 ρ bx fl) v t → RepT w ok v t := fun r => r.ext fun b hb _ => ⟨rfl, hok' b hb⟩
  rcases hown.2 with ⟨e1, e2⟩ | ⟨g, cap, cur, e1, hg, hh, hcap, hmax, hcs, htk⟩
  · rw [e1]
    have hL : L = [] := List.eq_nil_of_length_eq_zero e2
    subst hL
    exact .sl none 0 0 sz [] (fun _ _ => undef) rfl (Nat.le_refl _) (Nat.zero_le _) hsz (fun i j es t h1 => by simp at h1) (fun i j es t h1 => by simp at h1)
  · rw [e1]
    refine .sl (some ⟨g, 0, none⟩) L.length cap sz L (fun i j => (xs.getD (i * sz + j) undef)) rfl hcap hmax hsz (fun i j es t h1 h2 => ?_) (fun i j es t h1 h2 => ?_)
    · obtain ⟨q1, q2⟩ := row_elem hsz hr h1
      have hj : j < ((xs.drop (i * sz)).take sz).length := by rw [q1]; exact (List.getElem?_eq_some_iff.1 h2).1
      have hj' : j < sz := by simp at hj; omega
      have hx : xs[i * sz + j]? = some (xs.getD (i * sz + j) undef) := by
        have : i * sz + j < xs.length := by simp at hj; omega
        simp [List.getD, List.getElem?_eq_getElem this]
      refine ⟨⟨g, 0, none⟩, rfl, rfl, hok g hg, ?_⟩
      have := hown.cells (g := g) (by rw [e1]; rfl) _ _ hx
      rwa [add_none] at this
    · obtain ⟨q1, q2⟩ := row_elem hsz hr h1
      have hj : j < ((xs.drop (i * sz)).take sz).length := by rw [q1]; exact (List.getElem?_eq_some_iff.1 h2).1
      have hj' : j < sz := by simp at hj; omega
      have hx : xs[i * sz + j]? = some (xs.getD (i * sz + j) undef) := by
        have : i * sz + j < xs.length := by simp at hj; omega
        simp [List.getD, List.getElem?_eq_getElem this]
      refine hmono (q2 j _ t ?_ h2)
      rw [List.getElem?_take, if_pos hj', List.getElem?_drop]
      exact hx

section
variable {B0 : Nat} {w : World} {ρ : Env} {bx : List Box} {bx' : Nat → Box}
theorem frz1_sound (hs : SimB B0 w ρ bx') {v : Value} {t t' : AV} (hag : ∀ k, k ∈ rd1 t → bx' k = bget bx k) (hr : Rep B0 w ρ bx' v t) (h : frz1 bx t = some t') : RepP w (fun _ => True) v t' := by
  unfold frz1 at h
  split at h
  · injection h with h; subst h; rw [hr.inv_lit]; exact .lit _
  · injection h with h; subst h
    exact .sl _ _ _ (hr.inv_sl.ext fun _ _ _ => ⟨rfl, trivial⟩)
  · injection h with h; subst h
    obtain ⟨a, rfl⟩ := hr.inv_e0
    exact .sl _ _ _ (.sl a 0 0 0 [] (fun _ _ => undef) rfl (Nat.le_refl _) (Nat.zero_le _) (fun es he => by simp at he) (fun i j es t h1 => by simp at h1) (fun i j es t h1 => by simp at h1))
  · rename_i k
    split at h
    · rename_i fl e sz L hk
      injection h with h; subst h
      obtain ⟨_, hv⟩ := hr.inv_row
      have hb := hs.box k
      rw [hag k (by simp [rd1]), hk] at hb
      rw [hv]
      exact .sl _ _ _ (row_repT hb (fun _ _ => trivial) (fun _ _ => trivial))
    · cases h
  · cases h
theorem frzs_sound (hs : SimB B0 w ρ bx') : ∀ (ts ts' : List AV) (vs : List Value), (∀ k, k ∈ ts.flatMap rd1 → bx' k = bget bx k) → RepL B0 w ρ bx' vs ts → frzs bx ts = some ts' → RepPL w (fun _ => True) vs ts'
  | [], ts', vs, _, hr, h => by
    simp only [frzs, Option.some.injEq] at h
    subst h
    exact ⟨hr.1, fun i v t h1 h2 => by simp at h2⟩
  | t :: ts, ts', vs, hag, hr, h => by
    simp only [frzs] at h
    split at h
    · rename_i a r ha hr'
      injection h with h; subst h
      cases vs with
      | nil => have := hr.1; simp at this
      | cons v vs =>
        have ih := frzs_sound hs ts r vs (fun k hk => hag k (by simp at hk ⊢; exact .inr hk)) ⟨by have := hr.1; simpa using this, fun i v t h1 h2 => hr.2 (i + 1) v t (by simpa using h1) (by simpa using h2)⟩ hr'
        have h0 := frz1_sound hs (fun k hk => hag k (by simp; exact .inl hk)) (hr.2 0 v t rfl rfl) ha
        refine ⟨by simp [ih.1], fun i v' t' h1 h2 => ?_⟩
        match i, h1, h2 with
        | 0, h1, h2 => simp at h1 h2; subst h1; subst h2; exact h0
        | i + 1, h1, h2 => exact ih.2 i v' t' (by simpa using h1) (by simpa using h2)
    · cases h
theorem frz_sound (hs : SimB B0 w ρ bx') {v : Value} {t t' : AV} (hag : ∀ k, k ∈ rdA t → bx' k = bget bx k) (hr : Rep B0 w ρ bx' v t) (h : frz bx t = some t') : RepP w (fun _ => True) v t' := by
  unfold frz at h
  split at h
  · rename_i cs
    split at h
    · rename_i r hr'
      injection h with h; subst h
      obtain ⟨vs, rfl, hvs⟩ := hr.inv_agg
      have := frzs_sound hs cs r vs hag hvs hr'
      exact .agg vs r this.1 this.2
    · cases h
  · rename_i hne
    exact frz1_sound hs (fun k hk => hag k (by cases t <;> first | exact hk | exact absurd rfl (hne _))) hr h
theorem frzL_sound (hs : SimB B0 w ρ bx') : ∀ (ts ts' : List AV) (vs : List Value), (∀ k, k ∈ ts.flatMap rdA → bx' k = bget bx k) → RepL B0 w ρ bx' vs ts → frzL bx ts = some ts' → RepPL w (fun _ => True) vs ts'
  | [], ts', vs, _, hr, h => by
    simp only [frzL, Option.some.injEq] at h
    subst h
    exact ⟨hr.1, fun i v t h1 h2 => by simp at h2⟩
  | t :: ts, ts', vs, hag, hr, h => by
    simp only [frzL] at h
    split at h
    · rename_i a r ha hr'
      injection h with h; subst h
      cases vs with
      | nil => have := hr.1; simp at this
      | cons v vs =>
        have ih := frzL_sound hs ts r vs (fun k hk => hag k (by simp at hk ⊢; exact .inr hk)) ⟨by have := hr.1; simpa using this, fun i v t h1 h2 => hr.2 (i + 1) v t (by simpa using h1) (by simpa using h2)⟩ hr'
        have h0 := frz_sound hs (fun k hk => hag k (by simp; exact .inl hk)) (hr.2 0 v t rfl rfl) ha
        refine ⟨by simp [ih.1], fun i v' t' h1 h2 => ?_⟩
        match i, h1, h2 with
        | 0, h1, h2 => simp at h1 h2; subst h1; subst h2; exact h0
        | i + 1, h1, h2 => exact ih.2 i v' t' (by simpa using h1) (by simpa using h2)
    · cases h
end

/-- a call is met by a contract -/
def CallK (P : Program) (f : FuncId) (args : List AV) (bx : List Box) (K : AV → Prop) : Prop :=
  ∃ args' r, frzL bx args = some args' ∧ Den P f args' r ∧ K r

theorem exec_call {P : Program} {o : Oper} {c : Call} {f : FuncId} (ho : o.op = .call c) (hc : c.callee = .value (.func f)) (hf : Callable P f) (a : Act) (w : World) :
    (execOp a.eval o).run P w = .ok (.enter f (c.args.map a.eval)) w := by
  obtain ⟨fn, h1, h2, h3⟩ := hf
  cases hb : fn.body with
  | none => rw [hb] at h2; cases h2
  | some body =>
    have h3' : ¬ fn.name = "runtime.NumGoroutine" := by simpa using h3
    simp [execOp, ho, resolve, hc, Act.eval, Deferred.ofValue, invoke, callFunc, h1, h3', hb]

theorem call_sound {P : Program} {o : Oper} {ev : Operand → AV} {bx : List Box} {c : Call} {f : FuncId} {args' : List AV} {r : AV} (ho : o.op = .call c) (hc : c.callee = .value (.func f))
    (hfr : frzL bx (c.args.toList.map ev) = some args') (hd : Den P f args' r) : LocalOk P o ev bx r [] ((c.args.toList.map ev).flatMap rdA) := by
  intro B0 w ρ bx' a K Q hag _ hs hr hK
  obtain ⟨hcall, hden⟩ := hd
  unfold Oper.wp
  rw [exec_call ho hc hcall]
  have hargs : RepL B0 w ρ bx' (c.args.toList.map a.eval) (c.args.toList.map ev) := ⟨by simp, fun i v t h1 h2 => by
    rw [List.getElem?_map] at h1 h2
    cases hi : c.args.toList[i]? with
    | none => rw [hi] at h1; cases h1
    | some x =>
      rw [hi] at h1 h2
      simp at h1 h2
      subst h1; subst h2
      refine hr x ?_
      rw [ho]
      simp only [Op.operands, Call.operands, Array.mem_append]
      exact .inr (by have := List.mem_of_getElem? hi; simpa using this)⟩
  have hp := frzL_sound hs _ args' _ hag hargs hfr
  have he : (⟨c.args.toList.map a.eval⟩ : Array Value) = c.args.map a.eval := by apply Array.ext'; simp
  have hcalls := hden w _ hp
  rw [he] at hcalls
  refine hcalls.mono fun e w' ⟨v, he, hv, hbel⟩ => ?_
  subst he
  refine hK v w' ρ (Ext.world hbel hs.base) (hs.world hbel) (hv.rep fun b hb _ fl => ⟨fun hm => ?_, fun _ => Nat.le_trans hs.base hb⟩)
  have := (hs.mut_lt hm).2
  omega

/-! the table of operations; n: the number of the next box -/
def builtinF (P : Program) (b : Builtin) (args : List AV) (ts : List TypeId) (bx : List Box) : Res :=
  match b, args, ts with
  | .len, [x], [t] => lenF P t x bx
  | .max, [x, y], _ => mmF true x y
  | .min, [x, y], _ => mmF false x y
  | _, _, _ => none
def opF (P : Program) (op : Op) (ev : Operand → AV) (bx : List Box) : Res :=
  match op with
  | .move x => some (none, ev x, [], [])
  | .assign x => some (none, ev x, [], [])
  | .pick c a b => pickF (ev c) (ev a) (ev b)
  | .box t x => boxF t (ev x) bx.length
  | .alloc t => allocF P t bx.length
  | .load t x => loadF P t (ev x) bx
  | .store t x y => storeF P t (ev x) (ev y) bx
  | .fieldAddr t x i => fieldAddrF P t (ev x) i
  | .indexAddr t x i => indexAddrF P t (ev x) (ev i) bx
  | .binOp op t x y _ => binF P op t (ev x) (ev y)
  | .unOp op _ x => unF op (ev x)
  | .extract x i => extractF (ev x) i
  | .build t ps => buildF P t (ps.toList.map fun p => (p.1, ev p.2))
  | .convert s d x => convF P s d (ev x)
  | .call c => match c.callee with
    | .builtin b => builtinF P b (c.args.toList.map ev) c.argTypes.toList bx
    | _ => none
  | _ => none

theorem opF_sound {P : Program} {o : Oper} {ev : Operand → AV} {bx : List Box} {c : Option Prop} {r : AV} {e : List (Nat × Box)} {rd : List Nat} (h : opF P o.op ev bx = some (c, r, e, rd)) (hc : CondP c) : LocalOk P o ev bx r e rd := by
  cases ho : o.op <;> rw [ho] at h <;> simp only [opF] at h
  case move x =>
    simp only [Option.some.injEq, Prod.mk.injEq] at h
    obtain ⟨_, rfl, rfl, rfl⟩ := h
    exact move_sound (.inl ho)
  case assign x =>
    simp only [Option.some.injEq, Prod.mk.injEq] at h
    obtain ⟨_, rfl, rfl, rfl⟩ := h
    exact move_sound (.inr ho)
  case pick => exact pick_sound ho h
  case box => exact box_sound ho h
  case alloc => exact alloc_sound ho h
  case load => exact load_sound ho h
  case store => exact store_sound ho h
  case fieldAddr => exact fieldAddr_sound ho h
  case indexAddr => exact indexAddr_sound ho h hc
  case binOp => exact bin_sound ho h hc
  case unOp => exact un_sound ho h
  case extract => exact extract_sound ho h
  case build => exact build_sound ho h
  case convert => exact conv_sound ho h
  case call cl =>
    obtain ⟨callee, args, ats⟩ := cl
    cases callee with
    | builtin b =>
      simp only [builtinF] at h
      obtain ⟨args⟩ := args
      obtain ⟨ats⟩ := ats
      split at h
      · rename_i x t hx ht
        match args, hx with
        | [x'], hx =>
          simp at hx ht
          subst hx; subst ht
          exact len_sound ho h
      · rename_i x y _ hx
        match args, hx with
        | [x', y'], hx =>
          simp at hx
          obtain ⟨rfl, rfl⟩ := hx
          exact max_sound ho h
      · rename_i x y _ hx
        match args, hx with
        | [x', y'], hx =>
          simp at hx
          obtain ⟨rfl, rfl⟩ := hx
          exact min_sound ho h
      · cases h
    | value f => cases h
    | invoke => cases h
  all_goals cases h
end Go.Am
