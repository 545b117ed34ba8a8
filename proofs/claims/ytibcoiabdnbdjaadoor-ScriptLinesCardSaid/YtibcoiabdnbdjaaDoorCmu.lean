/- The abstract machine, third state: functions that defer one closure, which recovers. No condition. -/
import Derived.Test.YtibcoiabdnbdjaaDoorCmm
import Derived.Recover
namespace Go.Cm
open Go.RowKit
set_option linter.unusedSectionVars false
variable [Sig]

/-! operations ahead of others in a region -/
theorem traced_seqT {P : Program} {nt : Nat} {ops : Array Oper} {S : Start} {ds : List Deferred} {Q : Exit → Act → World → Prop} {st' : St} {rest : List Nat} :
    ∀ (os : List Oper) (i : Nat) (g : Nat → AV) (bx : Bxs) (tr : List TrE), (∀ j, j < os.length → os[j]? = ops[i + j]?) → Traced P nt ops os g bx tr (lk st'.R) st'.B → (∀ a w, Sim S nt ds st' a w → wpOps P ops Q rest a w) →
    S.n ≤ st'.nb → ∀ a w, (∃ ρ, Ext S.w S.ρ S.b w ρ (bget bx) ∧ SimB w ρ (bget bx) ∧ FrOk w ρ (bget bx) nt a g) → a.defers = ds → wpOps P ops Q (List.range' i os.length ++ rest) a w
  | [], i, g, bx, tr, _, h, hq, hnb, a, w, hs, hd => by
    obtain ⟨_, rfl, rfl⟩ := h
    exact hq a w ⟨hs, hd, hnb⟩
  | o :: os, i, g, bx, tr, hops, h, hq, hnb, a, w, hs, hdef => by
    obtain ⟨t, tr', rfl, ⟨hg, hrun, hskip, hnew⟩, h⟩ := h
    obtain ⟨ρ, hx0, hsb, hfr⟩ := hs
    have ho : ops[i]? = some o := by have := hops 0 (by simp); simpa using this.symm
    have hops' : ∀ j, j < os.length → os[j]? = ops[i + 1 + j]? := fun j hj => by have := hops (j + 1) (by simpa using hj); rw [show i + 1 + j = i + (j + 1) by omega]; simpa using this
    rw [List.length_cons, List.range'_succ, List.cons_append, wpOps_cons]
    unfold wpOp
    rw [ho]
    simp only
    rw [gOk_wanted hg hfr]
    cases hr : t.run with
    | true =>
      rw [if_pos rfl]
      left
      refine hrun hr w ρ (bget bx) a _ _ (fun _ _ => rfl) (fun k b hb => hnew k b hb) hsb (fun x _ => hfr.eval x) fun v' w' ρ' he hs' hv => ?_
      refine traced_seqT os (i + 1) _ _ tr' hops' h hq hnb _ _ ⟨ρ', ?_, ?_, ?_⟩ (by rw [put_defers]; exact hdef)
      · rw [bget_appL]; exact hx0.trans he
      · rw [bget_appL]; exact hs'
      · rw [bget_appL]; exact (hfr.ext he).put hv o.dst
    | false =>
      rw [if_neg (by simp)]
      obtain ⟨e1, e2, e3⟩ := hskip hr
      refine traced_seqT os (i + 1) _ _ tr' hops' h hq hnb _ _ ⟨ρ, ?_, ?_, ?_⟩ (by rw [put_defers]; exact hdef)
      · rw [bget_appL, e2]; exact hx0
      · rw [bget_appL, e2]; exact hsb
      · rw [bget_appL, e1, e2]; exact hfr.put (.lit _) o.dst

/-! the deferring function: code up to the defer, and behind it -/
/-- a region whose last operation defers a closure -/
def splitDefer (ops : Array Oper) : Option (List Oper × Operand) :=
  match ops.toList.reverse with
  | [] => none
  | o :: r => match o.op, o.guard, o.dst with
    | .defer c, none, none => (match c.callee, c.args.toList with
      | .value x, [] => some (r.reverse, x)
      | _, _ => none)
    | _, _, _ => none
theorem splitDefer_spec {ops : Array Oper} {pre : List Oper} {x : Operand} (h : splitDefer ops = some (pre, x)) : ∃ o c, ops.toList = pre ++ [o] ∧ o.op = .defer c ∧ o.guard = none ∧ o.dst = none ∧ c.callee = .value x ∧ c.args = #[] := by
  unfold splitDefer at h
  split at h
  · cases h
  · rename_i o r hr
    split at h
    · rename_i c h1 h2 h3
      split at h
      · rename_i x' h4 h5
        simp only [Option.some.injEq, Prod.mk.injEq] at h
        obtain ⟨rfl, rfl⟩ := h
        refine ⟨o, c, ?_, h1, h2, h3, h4, by apply Array.ext'; exact h5⟩
        have := congrArg List.reverse hr
        simpa using this
      · cases h
    · cases h
def hasDefer : Code → Bool
  | .seq a b => hasDefer a || hasDefer b
  | .region _ ops false => (splitDefer ops).isSome
  | _ => false
def belowB (B : Bxs) (n : Nat) : Bool := B.all fun p => decide (p.1 < n)
theorem belowB_spec {n : Nat} : ∀ {B : Bxs}, belowB B n = true → ∀ j, (bget B j).made → j < n
  | [], _, j, hj => hj.elim
  | (k, b) :: B, h, j, hj => by
    simp only [belowB, List.all_cons, Bool.and_eq_true, decide_eq_true_eq] at h
    unfold bget at hj
    split at hj
    · rename_i e; subst e; exact h.1
    · exact belowB_spec (B := B) h.2 j hj
abbrev Clo := FuncId × List AV
def seqD {A : Type} (k : Option Clo → St → Option A) (K : Option Clo → Ex → St → Option A) (d : Option Clo) (x : Ex) (s : St) : Option A :=
  match x with
  | .nrm => k d s
  | .ex i => K d (.ex i) s
  | .ret => K d .ret s
  | .pan v => K d (.pan v) s
  | .panP .. => bad 67
def noInl {A : Type} : Inl A := fun _ _ _ _ _ => bad 69
def evD (cx : Ctx) (e2 : Env2) (n : Nat) (f nt : Nat) {A : Type} : List Nat → Code → St → (Option Clo → Ex → St → Option A) → Option A
  | path, .seq a b, s, K => match hasDefer a with
    | true => evD cx e2 n f nt (0 :: path) a s (seqD (fun d s1 => match belowB s1.B s1.nb with
      | true => ev cx e2 n false f nt (1 :: path) b A s1 (K d)
      | false => bad 75) K)
    | false => match hasDefer b with
      | true => ev cx e2 n false f nt (0 :: path) a A s (seqK (fun s1 => evD cx e2 n f nt (1 :: path) b s1 K) (K none))
      | false => bad 70
  | _, .region _ ops false, s, K => match splitDefer ops with
    | none => bad 71
    | some (pre, x) => evOps cx noInl nt ops (fun _ _ _ _ _ => bad 72) (fun st' _ => match evA st'.R x with
      | .clo g caps => K (some (g, caps)) .nrm st'
      | _ => bad 73) pre s []
  | _, _, _, _ => bad 74
/-- what has been deferred -/
def DefOk (w : World) (ρ : Env) (bx : Nat → Box) (d : Option Clo) (ds : List Deferred) : Prop :=
  match d with
  | none => ds = []
  | some (g, caps) => ∃ vs, ds = [{ target := .fn (.func g) ⟨vs⟩, args := #[] }] ∧ RepL w ρ bx vs caps
structure SimD (S : Start) (nt : Nat) (d : Option Clo) (st : St) (a : Act) (w : World) : Prop where
  ex : ∃ ρ, Ext S.w S.ρ S.b w ρ (bget st.B) ∧ SimB w ρ (bget st.B) ∧ FrOk w ρ (bget st.B) nt a (lk st.R) ∧ DefOk w ρ (bget st.B) d a.defers
  nb : S.n ≤ st.nb
theorem SimD.of {S : Start} {nt : Nat} {st : St} {a : Act} {w : World} (h : Sim S nt [] st a w) : SimD S nt none st a w := by
  obtain ⟨⟨ρ, h1, h2, h3⟩, h4, h5⟩ := h
  exact ⟨⟨ρ, h1, h2, h3, h4⟩, h5⟩
theorem noInl_ok (P : Program) (A : Type) : InlOk P (noInl (A := A)) := fun f args bi nb k a hlim h => by cases h
/-- code behind the defer -/
theorem ev_behind {P : Program} {nt : Nat} {c : Code} {s s' : St} {x : Ex} (O : Outc P nt c s x s') (hle : s.nb ≤ s'.nb) (hlim : ∀ j, (bget s.B j).made → j < s.nb) {S : Start} {d : Option Clo} {a : Act} {w : World} (hs : SimD S nt d s a w) :
    c.wp P (fun e a' w' => e = exOf x ∧ SimD S nt d s' a' w') a w := by
  obtain ⟨⟨ρ, h1, h2, h3, h4⟩, hn⟩ := hs
  refine wp_mono (O ⟨w, ρ, bget s.B, s.nb, hlim⟩ a.defers a w ⟨⟨ρ, Ext.refl, h2, h3⟩, rfl, Nat.le_refl _⟩) fun e a' w' ⟨he, hs'⟩ => ⟨he, ?_⟩
  obtain ⟨⟨ρ', g1, g2, g3⟩, hd, _⟩ := hs'
  refine ⟨⟨ρ', h1.trans g1, g2, g3, ?_⟩, Nat.le_trans hn hle⟩
  rw [hd]
  unfold DefOk at h4 ⊢
  cases d with
  | none => exact h4
  | some p =>
    obtain ⟨vs, e1, e2⟩ := h4
    exact ⟨vs, e1, e2.ext g1⟩
structure EvDIs (P : Program) (nt : Nat) (c : Code) {A : Type} (s : St) (K : Option Clo → Ex → St → Option A) (a : A) : Prop where
  ex : ∃ d x s', K d x s' = some a ∧ s'.tl = s.tl ∧ s'.bt = s.bt ∧ s.nb ≤ s'.nb ∧
    ∀ (S : Start) (a : Act) (w : World), Sim S nt [] s a w → c.wp P (fun e a' w' => e = exOf x ∧ SimD S nt d s' a' w') a w
theorem exec_defer {P : Program} {o : Oper} {c : Call} {x : Operand} {g : FuncId} {vs : List Value} (ho : o.op = .defer c) (hc : c.callee = .value x) (hargs : c.args = #[]) (a : Act) (w : World) (hx : a.eval x = .func (.func g) #[] ⟨vs⟩) :
    (execOp a.eval o).run P w = .ok (.defer { target := .fn (.func g) ⟨vs⟩, args := #[] }) w := by
  simp [execOp, ho, resolve, hc, hx, hargs, Deferred.ofValue]
theorem evD_sound {cx : Ctx} {e2 : Env2} (hm : POk cx.P) (hΓ : ∀ f F, cx.Γ f = some F → DenF cx.P f F) (hΨ : ∀ f F, cx.Ψ f = some F → DenP cx.P f F) (hfns : ∀ g fn, e2.fns g = some fn → cx.P.funcs[g]? = some fn) (n f nt : Nat) {A : Type} :
    ∀ (c : Code) (path : List Nat) (s : St) (K : Option Clo → Ex → St → Option A) (a : A), evD cx e2 n f nt path c s K = some a → EvDIs cx.P nt c s K a := by
  intro c
  induction c with
  | seq c1 c2 ih1 ih2 =>
    intro path s K a h
    unfold evD at h
    split at h
    · obtain ⟨d, x, s1, hx, t1, b1, n1, O1⟩ := (ih1 _ _ _ _ h).ex
      cases x with
      | nrm =>
        simp only [seqD] at hx
        split at hx
        · rename_i hbel
          obtain ⟨x2, s2, hx2, t2, b2, n2, O2⟩ := (ev_sound hm hΓ hΨ hfns n false f nt (1 :: path) c2 A _ _ _ hx).ex
          refine ⟨d, x2, s2, hx2, t2.trans t1, b2.trans b1, Nat.le_trans n1 n2, fun S a w hs => wp_seq (wp_mono (O1 S a w hs) fun e a' w' ⟨he, hs'⟩ => ?_)⟩
          subst he
          exact ev_behind O2 n2 (belowB_spec hbel) hs'
        · cases hx
      | ex i =>
        refine ⟨d, .ex i, s1, hx, t1, b1, n1, fun S a w hs => wp_seq (wp_mono (O1 S a w hs) fun e a' w' ⟨he, hs'⟩ => ?_)⟩
        subst he
        exact ⟨rfl, hs'⟩
      | ret =>
        refine ⟨d, .ret, s1, hx, t1, b1, n1, fun S a w hs => wp_seq (wp_mono (O1 S a w hs) fun e a' w' ⟨he, hs'⟩ => ?_)⟩
        subst he
        exact ⟨rfl, hs'⟩
      | pan v =>
        refine ⟨d, .pan v, s1, hx, t1, b1, n1, fun S a w hs => wp_seq (wp_mono (O1 S a w hs) fun e a' w' ⟨he, hs'⟩ => ?_)⟩
        subst he
        exact ⟨rfl, hs'⟩
      | panP t ti => cases hx
    · split at h
      · obtain ⟨x, s1, hx, t1, b1, n1, O1⟩ := (ev_sound hm hΓ hΨ hfns n false f nt (0 :: path) c1 A _ _ _ h).ex
        cases x with
        | nrm =>
          obtain ⟨d, x2, s2, hx2, t2, b2, n2, O2⟩ := (ih2 _ _ _ _ hx).ex
          refine ⟨d, x2, s2, hx2, t2.trans t1, b2.trans b1, Nat.le_trans n1 n2, fun S a w hs => wp_seq (wp_mono (O1 S [] a w hs) fun e a' w' ⟨he, hs'⟩ => ?_)⟩
          subst he
          exact O2 S a' w' hs'
        | ex i =>
          refine ⟨none, .ex i, s1, hx, t1, b1, n1, fun S a w hs => wp_seq (wp_mono (O1 S [] a w hs) fun e a' w' ⟨he, hs'⟩ => ?_)⟩
          subst he
          exact ⟨rfl, SimD.of hs'⟩
        | ret =>
          refine ⟨none, .ret, s1, hx, t1, b1, n1, fun S a w hs => wp_seq (wp_mono (O1 S [] a w hs) fun e a' w' ⟨he, hs'⟩ => ?_)⟩
          subst he
          exact ⟨rfl, SimD.of hs'⟩
        | pan v =>
          refine ⟨none, .pan v, s1, hx, t1, b1, n1, fun S a w hs => wp_seq (wp_mono (O1 S [] a w hs) fun e a' w' ⟨he, hs'⟩ => ?_)⟩
          subst he
          exact ⟨rfl, SimD.of hs'⟩
        | panP t ti => cases hx
      · cases h
  | region id ops dr =>
    intro path s K a h
    cases dr with
    | true => simp only [evD] at h; cases h
    | false =>
      simp only [evD] at h
      split at h
      · cases h
      · rename_i pre x hsp
        obtain ⟨o, c, hops, ho, hgu, hdst, hcal, hargs⟩ := splitDefer_spec hsp
        rcases (evOps_sound hΓ hΨ (noInl_ok cx.P A) _ _ _ h).ex with ⟨tr, st', h1, h2, h3, h4, h5⟩ | ⟨_, _, _, _, _, _, _, _, _, _, _, hb, _⟩
        · split at h2
          · rename_i g caps hx
            refine ⟨some (g, caps), .nrm, st', h2, h3, h4, h5, fun S a w hs => wp_region ?_⟩
            have hsz : ops.size = pre.length + 1 := by
              have := congrArg List.length hops
              simpa using this
            have hlast : ops[pre.length]? = some o := by
              have : ops.toList[pre.length]? = some o := by rw [hops]; simp
              simpa using this
            rw [List.range_eq_range', hsz, List.range'_1_concat]
            rw [Nat.zero_add]
            refine traced_seqT pre 0 _ _ tr (fun j hj => ?_) h1 (fun a w hs => ?_) (Nat.le_trans hs.nb h5) a w hs.ex hs.defers
            · have : ops.toList[j]? = pre[j]? := by rw [hops, List.getElem?_append_left hj]
              rw [Nat.zero_add, ← this]
              simp
            · obtain ⟨⟨ρ, g1, g2, g3⟩, hd, hn⟩ := hs
              have hev := g3.eval x
              rw [← evA_eq, hx] at hev
              obtain ⟨vs, hv, hvr⟩ := hev.inv_clo
              rw [wpOps_cons]
              unfold wpOp
              rw [hlast]
              simp only
              have hw : Region.wanted o (yielded ops a.tmps) = true := by unfold Region.wanted; rw [hgu]
              rw [if_pos hw]
              left
              unfold Oper.wp
              rw [exec_defer ho hcal hargs a w hv]
              show exOf .nrm = .normal ∧ SimD S nt (some (g, caps)) st' _ w
              refine ⟨rfl, ⟨ρ, g1, g2, ?_, ?_⟩, hn⟩
              · rw [hdst]; exact g3
              · rw [hdst, hd]; exact ⟨vs, rfl, hvr⟩
          · cases h2
        · cases hb
  | _ => intro path s K a h; simp only [evD] at h; cases h
end Go.Cm
