/- The abstract machine, third state: the closure that recovers, and the contract of the function that defers it. No condition. -/
import Derived.Test.YtibcoiabdnbdjaaDoorCmu
namespace Go.Cm
open Go.RowKit
set_option linter.unusedSectionVars false
variable [Sig]

def isRecover (o : Oper) : Bool := match o.op, o.guard with
  | .call c, none => (match c.callee with
    | .builtin .recover => true
    | _ => false)
  | _, _ => false
theorem isRecover_spec {o : Oper} (h : isRecover o = true) : o.guard = none ∧ ∃ c, o.op = .call c ∧ c.callee = .builtin .recover := by
  unfold isRecover at h
  split at h
  · rename_i c h1 h2
    split at h
    · rename_i h3; exact ⟨h2, c, h1, h3⟩
    · cases h
  · cases h
def Recovers (cs : List Frame) (rv : Value) (cs' : List Frame) : Prop :=
  match recoverD cs with
  | some (v, c) => rv = v ∧ cs' = c
  | none => rv = .nilIface ∧ cs' = cs
theorem wpS_mono {P : Program} {c : Code} {Q Q' : Exit → Act → List Frame → World → Prop} {a : Act} {cs : List Frame} {w : World} (h : c.wpS P Q a cs w) (hq : ∀ e a cs w, Q e a cs w → Q' e a cs w) : c.wpS P Q' a cs w :=
  fun b k hb hr => let ⟨e, a', cs', w', q, r⟩ := h b k hb hr; ⟨e, a', cs', w', hq _ _ _ _ q, r⟩
theorem wpS_rec {P : Program} {id : Nat} {ops : Array Oper} {o : Oper} {rest : List Oper} {Q : Exit → Act → List Frame → World → Prop} {a : Act} {cs cs' : List Frame} {w : World} {rv : Value} (h0 : ops.toList = o :: rest) (hrec : isRecover o = true) (hcs : Recovers cs rv cs')
    (h : wpOps P ops (fun e a' w' => Q e a' cs' w') (List.range' 1 rest.length) (a.put o.dst rv) w) : (Code.region id ops false).wpS P Q a cs w := by
  intro b k hb hr
  obtain ⟨hgu, c, ho, hc⟩ := isRecover_spec hrec
  obtain ⟨e, a', w', hq, harr⟩ := wp_ops _ _ _ h b k cs'
  have hsz : ops.size = rest.length + 1 := by
    have := congrArg List.length h0
    simpa using this
  have ho0 : ops[0]? = some o := by
    have : ops.toList[0]? = some o := by rw [h0]; rfl
    simpa using this
  have hw : Region.wanted o (yielded ops a.tmps) = true := by unfold Region.wanted; rw [hgu]
  have hrange : List.range ops.size = 0 :: List.range' 1 rest.length := by
    rw [List.range_eq_range', hsz, List.range'_succ]
  have hs1 : step P (lone (b.at a (.code (.region id ops false) :: k)) cs w) = .next (lone (b.at a (.inRegion ops (0 :: List.range' 1 rest.length) :: k)) cs w) := by
    rw [← hrange]; exact step_region
  have hg := stepG_op (P := P) (b := b) (k := k) (cs := cs) (w := w) (rest := List.range' 1 rest.length) ho0 hw
  have hfin : ∀ v, (b.at a (.inRegion ops (0 :: List.range' 1 rest.length) :: k)).finish v = b.at (a.put o.dst v) (.inRegion ops (List.range' 1 rest.length) :: k) := by
    intro v; rw [Frame.finish_at, ho0]; rfl
  have hrun : (execOp a.eval o).run P w = .ok .recover w := by simp [execOp, ho, resolve, hc, invoke, builtin]
  have hk : (b.at a (.inRegion ops (0 :: List.range' 1 rest.length) :: k)).kind = .deferred := hb
  have htr := tryRecover_deferred hk cs
  refine ⟨e, a', cs', w', hq, .of_steps (.head hs1 (.one (step_lone_go ?_))) harr⟩
  unfold Recovers at hcs
  cases hrc : recoverD cs with
  | none =>
    rw [hrc] at hcs
    obtain ⟨rfl, rfl⟩ := hcs
    rw [hg, ← hfin]
    simp only [Frame.at] at htr ⊢
    simp [stepG.apply, hrun, htr, hrc]
  | some p =>
    obtain ⟨v, c'⟩ := p
    rw [hrc] at hcs
    obtain ⟨rfl, rfl⟩ := hcs
    rw [hg, ← hfin]
    simp only [Frame.at] at htr ⊢
    simp [stepG.apply, hrun, htr, hrc]

def evR (cx : Ctx) (e2 : Env2) (n f nt : Nat) (rv : Value) {A : Type} : List Nat → Code → St → (Ex → St → Option A) → Option A
  | path, .seq a b, s, K => evR cx e2 n f nt rv (0 :: path) a s (seqK (fun s1 => ev cx e2 n false f nt (1 :: path) b A s1 K) K)
  | _, .region _ ops false, s, K => match ops.toList with
    | [] => bad 76
    | o :: rest => match isRecover o with
      | true => evOps cx noInl nt ops (fun _ _ _ _ _ => bad 72) (fun st' _ => K .nrm st') rest ⟨putD nt s.fr o.dst (.lit rv), s.tl, s.bx, s.bt, s.nb⟩ []
      | false => bad 76
  | _, _, _, _ => bad 77
structure EvRIs (P : Program) (nt : Nat) (c : Code) (rv : Value) {A : Type} (s : St) (K : Ex → St → Option A) (a : A) : Prop where
  ex : ∃ x s', K x s' = some a ∧ s'.tl = s.tl ∧ s'.bt = s.bt ∧ s.nb ≤ s'.nb ∧
    ∀ (S : Start) (ds : List Deferred) (a : Act) (cs cs' : List Frame) (w : World), Recovers cs rv cs' → Sim S nt ds s a w → c.wpS P (fun e a' cs1 w' => cs1 = cs' ∧ e = exOf x ∧ Sim S nt ds s' a' w') a cs w
theorem evR_sound {cx : Ctx} {e2 : Env2} (hm : POk cx.P) (hΓ : ∀ f F, cx.Γ f = some F → DenF cx.P f F) (hΨ : ∀ f F, cx.Ψ f = some F → DenP cx.P f F) (hfns : ∀ g fn, e2.fns g = some fn → cx.P.funcs[g]? = some fn) (n f nt : Nat) (rv : Value) {A : Type} :
    ∀ (c : Code) (path : List Nat) (s : St) (K : Ex → St → Option A) (a : A), evR cx e2 n f nt rv path c s K = some a → EvRIs cx.P nt c rv s K a := by
  intro c
  induction c with
  | seq c1 c2 ih1 ih2 =>
    intro path s K a h
    unfold evR at h
    obtain ⟨x, s1, hx, t1, b1, n1, O1⟩ := (ih1 _ _ _ _ h).ex
    cases x with
    | nrm =>
      obtain ⟨x2, s2, hx2, t2, b2, n2, O2⟩ := (ev_sound hm hΓ hΨ hfns n false f nt (1 :: path) c2 A _ _ _ hx).ex
      refine ⟨x2, s2, hx2, t2.trans t1, b2.trans b1, Nat.le_trans n1 n2, fun S ds a cs cs' w hr hs => wpS_seq (wpS_mono (O1 S ds a cs cs' w hr hs) fun e a1 c1' w1 ⟨h1, h2, h3⟩ => ?_)⟩
      subst h1; subst h2
      exact wpS_of_wp (wp_mono (O2 S ds a1 w1 h3) fun e a2 w2 ⟨g1, g2⟩ => ⟨rfl, g1, g2⟩)
    | ex i =>
      refine ⟨.ex i, s1, hx, t1, b1, n1, fun S ds a cs cs' w hr hs => wpS_seq (wpS_mono (O1 S ds a cs cs' w hr hs) fun e a1 c1' w1 ⟨h1, h2, h3⟩ => ?_)⟩
      subst h1; subst h2
      exact ⟨rfl, rfl, h3⟩
    | ret =>
      refine ⟨.ret, s1, hx, t1, b1, n1, fun S ds a cs cs' w hr hs => wpS_seq (wpS_mono (O1 S ds a cs cs' w hr hs) fun e a1 c1' w1 ⟨h1, h2, h3⟩ => ?_)⟩
      subst h1; subst h2
      exact ⟨rfl, rfl, h3⟩
    | pan v =>
      refine ⟨.pan v, s1, hx, t1, b1, n1, fun S ds a cs cs' w hr hs => wpS_seq (wpS_mono (O1 S ds a cs cs' w hr hs) fun e a1 c1' w1 ⟨h1, h2, h3⟩ => ?_)⟩
      subst h1; subst h2
      exact ⟨rfl, rfl, h3⟩
    | panP t ti => cases hx
  | region id ops dr =>
    intro path s K a h
    cases dr with
    | true => simp only [evR] at h; cases h
    | false =>
      simp only [evR] at h
      split at h
      · cases h
      · rename_i o rest hops
        split at h
        · rename_i hrec
          rcases (evOps_sound hΓ hΨ (noInl_ok cx.P A) _ _ _ h).ex with ⟨tr, st', h1, h2, h3, h4, h5⟩ | ⟨_, _, _, _, _, _, _, _, _, _, _, hb, _⟩
          · refine ⟨.nrm, st', h2, h3, h4, h5, fun S ds a cs cs' w hr hs => wpS_rec hops hrec hr ?_⟩
            obtain ⟨⟨ρ, g1, g2, g3⟩, hd, hn⟩ := hs
            have hl : lk (St.R ⟨putD nt s.fr o.dst (.lit rv), s.tl, s.bx, s.bt, s.nb⟩) = putG nt (lk s.R) o.dst (.lit rv) := lk_putD nt s.fr s.tl o.dst (.lit rv)
            rw [← List.append_nil (List.range' 1 rest.length)]
            have hq : ∀ a' w', Sim S nt ds st' a' w' → wpOps cx.P ops (fun e a' w' => cs' = cs' ∧ e = exOf .nrm ∧ Sim S nt ds st' a' w') [] a' w' := fun a' w' hs => ⟨rfl, rfl, hs⟩
            refine traced_seqT rest 1 _ _ tr (fun j hj => ?_) h1 hq (Nat.le_trans hn h5) _ _ ⟨ρ, g1, g2, ?_⟩ (by rw [put_defers]; exact hd)
            · have : ops.toList[1 + j]? = rest[j]? := by rw [hops, Nat.add_comm]; rfl
              rw [← this]; simp
            · rw [hl]; exact g3.put (.lit _) o.dst
          · cases hb
        · cases h
  | _ => intro path s K a h; simp only [evR] at h; cases h

/-! the function -/
def runClo (cx : Ctx) (e2 : Env2) (ress : List Sig.TI) (own : List (List (Option TypeId))) (rs : List ResultVar) (rv : Value) (g : FuncId) (caps : List AV) (s : St) : Option (Ress ress) :=
  match e2.fns g with
  | none => bad 80
  | some gn => match gn.body with
    | none => bad 81
    | some c => match decide (caps.length ≤ gn.ntmps) && (!(gn.name == "runtime.NumGoroutine") && (gn.results.toList.isEmpty && belowB s.B s.nb)) with
      | false => bad 82
      | true => evR cx e2 100000 g gn.ntmps rv [] c ⟨args0 caps 0, [], [], s.B, s.nb⟩ fun x sc => match x with
        | .nrm => finK cx.P ress own rs .ret ⟨s.fr, s.tl, sc.bx, s.B, sc.nb⟩
        | .ret => finK cx.P ress own rs .ret ⟨s.fr, s.tl, sc.bx, s.B, sc.nb⟩
        | _ => bad 83
def finD (cx : Ctx) (e2 : Env2) (ress : List Sig.TI) (own : List (List (Option TypeId))) (rs : List ResultVar) (d : Option Clo) (x : Ex) (s : St) : Option (Ress ress) :=
  match x, d with
  | .nrm, none => finK cx.P ress own rs .ret s
  | .ret, none => finK cx.P ress own rs .ret s
  | .nrm, some (g, caps) => runClo cx e2 ress own rs .nilIface g caps s
  | .ret, some (g, caps) => runClo cx e2 ress own rs .nilIface g caps s
  | .pan v, some (g, caps) => runClo cx e2 ress own rs v g caps s
  | _, _ => bad 84
def bodyFnD (cx : Ctx) (e2 : Env2) (f : FuncId) (fn : Func) (pars ress : List Sig.TI) (own : List (List (Option TypeId))) : Fn pars (Option (Ress ress)) :=
  evFn pars fun cs => match fn.body with
    | none => bad 54
    | some c => evD cx e2 100000 f fn.ntmps [] c ⟨args0 (argA pars cs) 0, [], [], [], 0⟩ (finD cx e2 ress own fn.results.toList)
theorem run_invoke {P : Program} {g : FuncId} {gn : Func} {vs : List Value} {w : World} (hf : P.funcs[g]? = some gn) (hsome : gn.body.isSome = true) (hname : (gn.name == "runtime.NumGoroutine") = false) : (invoke (.fn (.func g) ⟨vs⟩) #[]).run P w = .ok (.enter g ⟨vs⟩) w := by
  cases hb : gn.body with
  | none => rw [hb] at hsome; cases hsome
  | some body =>
    have h3' : ¬ gn.name = "runtime.NumGoroutine" := by simpa using hname
    simp [invoke, callFunc, hf, h3', hb]

section
variable {cx : Ctx} {e2 : Env2} (hm : POk cx.P) (hΓ : ∀ f F, cx.Γ f = some F → DenF cx.P f F) (hΨ : ∀ f F, cx.Ψ f = some F → DenP cx.P f F) (hfns : ∀ g fn, e2.fns g = some fn → cx.P.funcs[g]? = some fn)
include hm hΓ hΨ hfns
/-- the end of a function whose closure has been deferred -/
theorem leaves_clo {fn : Func} {ress : List Sig.TI} {own : List (List (Option TypeId))} {rv : Value} {g : FuncId} {caps : List AV} {s' : St} {r : Ress ress} {u : FrameMode} (hu : u ≠ .run) (hset : ∀ c₀ : Frame, c₀.mode = u → ∀ cs, ∃ u', Recovers (c₀ :: cs) rv ({ c₀ with mode := u' } :: cs) ∧ settle u' = .returning)
    (hx : runClo cx e2 ress own fn.results.toList rv g caps s' = some r) {w : World} {ρ : Env} {hlim : ∀ j, (bget ([] : Bxs) j).made → j < 0} {nt n : Nat} {a' : Act} {w' : World} (hs' : SimD ⟨w, ρ, bget ([] : Bxs), 0, hlim⟩ nt (some (g, caps)) s' a' w') :
    Leaves cx.P fn a'.tmps (fun e w' => ∃ v ρ', e = .returned v ∧ Ext w ρ nilB w' ρ' (appE nilB (resL ress own (encR ress r) n).2) ∧ SimB w' ρ' (appE nilB (resL ress own (encR ress r) n).2) ∧ Rep w' ρ' (appE nilB (resL ress own (encR ress r) n).2) v (oneA (resL ress own (encR ress r) n).1)) a'.defers u w' := by
  obtain ⟨⟨ρ', h1, h2, h3, vs, hdef, hvs⟩, hn⟩ := hs'
  unfold runClo at hx
  split at hx
  · cases hx
  · rename_i gn hg
    split at hx
    · cases hx
    · rename_i c hc
      split at hx
      · cases hx
      · rename_i hchk
        simp only [Bool.and_eq_true, decide_eq_true_eq, Bool.not_eq_true'] at hchk
        obtain ⟨hlen, hname, hres, hbel⟩ := hchk
        have hgf := hfns g gn hg
        obtain ⟨x, sc, hxc, _, hbt, hle, hO⟩ := (evR_sound hm hΓ hΨ hfns 100000 g gn.ntmps rv c _ _ _ _ hx).ex
        rw [hdef]
        refine ⟨hu, .func g, ⟨vs⟩, g, ⟨vs⟩, rfl, run_invoke hgf (by rw [hc]; rfl) hname, callsD_of_wpS hgf hc fun c₀ cs hmode => ?_⟩
        obtain ⟨u', hrec, hsettle⟩ := hset c₀ hmode cs
        have hlim' : ∀ j, (bget s'.B j).made → j < s'.nb := belowB_spec hbel
        have hsim := sim_start (ρ := ρ') (bi := s'.B) (nb := s'.nb) (nt := gn.ntmps) hlim' h2 hvs hlen
        refine wpS_mono (hO _ [] _ _ _ _ hrec hsim) fun e a1 cs1 w1 ⟨e1, e2', hs1⟩ => ?_
        subst e1
        obtain ⟨⟨ρ1, g1, g2, g3⟩, hd1, hn1⟩ := hs1
        have hfinK : (x = .nrm ∨ x = .ret) ∧ finK cx.P ress own fn.results.toList .ret ⟨s'.fr, s'.tl, sc.bx, s'.B, sc.nb⟩ = some r := by
          cases x with
          | nrm => exact ⟨.inl rfl, hxc⟩
          | ret => exact ⟨.inr rfl, hxc⟩
          | ex i => cases hxc
          | pan v => cases hxc
          | panP t ti => cases hxc
        obtain ⟨hxx, hfk⟩ := hfinK
        have hB : St.B ⟨s'.fr, s'.tl, sc.bx, s'.B, sc.nb⟩ = sc.B := by
          show sc.bx ++ s'.B = sc.bx ++ sc.bt
          rw [hbt]
        have hR : St.R ⟨s'.fr, s'.tl, sc.bx, s'.B, sc.nb⟩ = s'.R := rfl
        have hfr := h3.ext g1
        have hsimF : Sim ⟨w, ρ, bget ([] : Bxs), 0, hlim⟩ nt [] ⟨s'.fr, s'.tl, sc.bx, s'.B, sc.nb⟩ { tmps := a'.tmps, defers := [] } w1 := by
          refine ⟨⟨ρ1, ?_, ?_, ?_⟩, rfl, Nat.zero_le _⟩
          · rw [hB]; exact h1.trans g1
          · rw [hB]; exact g2
          · rw [hB, hR]; exact ⟨hfr.1, hfr.2⟩
        obtain ⟨_, _, v, hv1, v', ρ2, hvv, k1, k2, k3⟩ := fin_end (n := n) hfk hsimF
        injection hvv with hvv
        subst hvv
        have hresC : ∃ v0, (results gn a1.tmps).run cx.P w1 = .ok v0 w1 := by
          have hrs : gn.results.toList = [] := List.isEmpty_iff.1 hres
          have hret : retV cx.P sc gn.results.toList = some [] := by rw [hrs]; rfl
          obtain ⟨us, u1, _⟩ := results_sound (fn := gn) g2 g3 hret
          exact ⟨_, u1⟩
        obtain ⟨v0, hv0⟩ := hresC
        have hgoal : a1.defers = [] ∧ ∃ u'', ({ c₀ with mode := u' } :: cs : List Frame) = { c₀ with mode := u'' } :: cs ∧ ∃ v, (results gn a1.tmps).run cx.P w1 = .ok v w1 ∧ Leaves cx.P fn a'.tmps (fun e w' => ∃ v ρ', e = .returned v ∧ Ext w ρ nilB w' ρ' (appE nilB (resL ress own (encR ress r) n).2) ∧ SimB w' ρ' (appE nilB (resL ress own (encR ress r) n).2) ∧ Rep w' ρ' (appE nilB (resL ress own (encR ress r) n).2) v (oneA (resL ress own (encR ress r) n).1)) [] (settle u'') w1 := by
          refine ⟨hd1, u', rfl, v0, hv0, ?_⟩
          rw [hsettle]
          exact ⟨v, hv1, v, ρ2, rfl, k1, k2, k3⟩
        rcases hxx with rfl | rfl
        · subst e2'; exact hgoal
        · subst e2'; exact hgoal
theorem bodyFnD_den {f : FuncId} {fn : Func} (hf : cx.P.funcs[f]? = some fn) (hsome : fn.body.isSome = true) (hname : (fn.name == "runtime.NumGoroutine") = false) {pars ress : List Sig.TI} {own : List (List (Option TypeId))} (hlen : pars.length ≤ fn.ntmps) :
    DenF cx.P f ⟨pars, ress, own, bodyFnD cx e2 f fn pars ress own⟩ := by
  cases hb : fn.body with
  | none => rw [hb] at hsome; cases hsome
  | some c =>
    refine ⟨⟨fn, hf, hsome, hname⟩, fun cs r hr n => ⟨⟨fn, hf, hsome, hname⟩, fun w ρ vs hs hvs => ?_⟩⟩
    have hal := apF_length _ _ _ _ hr
    have hr' := apF_evFn _ _ _ _ hr
    simp only [hb] at hr'
    obtain ⟨d, x, s', hx, ht, hbt, hle, hO⟩ := (evD_sound hm hΓ hΨ hfns 100000 f fn.ntmps c [] _ _ r hr'.symm).ex
    have hlim : ∀ j, (bget ([] : Bxs) j).made → j < 0 := fun j hj => hj.elim
    have hnil : bget ([] : Bxs) = nilB := rfl
    refine calls_of_wp_defers hf hb ?_
    refine wp_mono (hO _ _ _ (sim_start (ρ := ρ) (bi := []) (nb := 0) hlim (by rw [hnil]; exact hs) (by rw [hnil]; exact hvs) (by simp only at hal hlen ⊢; omega))) fun ex a' w' ⟨hexit, hs'⟩ => ?_
    have plain : d = none → finK cx.P ress own fn.results.toList .ret s' = some r → Leaves cx.P fn a'.tmps (fun e w' => ∃ v ρ', e = .returned v ∧ Ext w ρ nilB w' ρ' (appE nilB (resL ress own (encR ress r) n).2) ∧ SimB w' ρ' (appE nilB (resL ress own (encR ress r) n).2) ∧ Rep w' ρ' (appE nilB (resL ress own (encR ress r) n).2) v (oneA (resL ress own (encR ress r) n).1)) a'.defers .returning w' := by
      intro hd hk
      subst hd
      obtain ⟨⟨ρ', h1, h2, h3, h4⟩, hn⟩ := hs'
      have h4' : a'.defers = [] := h4
      obtain ⟨_, _, v, hv1, v', ρ2, hvv, k1, k2, k3⟩ := fin_end (n := n) hk ⟨⟨ρ', h1, h2, h3⟩, h4', hn⟩
      injection hvv with hvv
      subst hvv
      rw [h4']
      exact ⟨v, hv1, v, ρ2, rfl, k1, k2, k3⟩
    have back : ∀ c₀ : Frame, c₀.mode = .returning → ∀ cs, ∃ u', Recovers (c₀ :: cs) .nilIface ({ c₀ with mode := u' } :: cs) ∧ settle u' = .returning := fun c₀ hm' cs => by
      refine ⟨.returning, ?_, rfl⟩
      unfold Recovers
      have : recoverD (c₀ :: cs) = none := by simp only [recoverD, hm']
      rw [this]
      exact ⟨rfl, by rw [← hm']⟩
    cases x with
    | nrm =>
      subst hexit
      cases d with
      | none => exact plain rfl hx
      | some p => obtain ⟨g, caps⟩ := p; exact leaves_clo hm hΓ hΨ hfns (by intro h; cases h) back hx hs'
    | ret =>
      subst hexit
      cases d with
      | none => exact plain rfl hx
      | some p => obtain ⟨g, caps⟩ := p; exact leaves_clo hm hΓ hΨ hfns (by intro h; cases h) back hx hs'
    | pan v =>
      subst hexit
      cases d with
      | none => cases hx
      | some p =>
        obtain ⟨g, caps⟩ := p
        refine leaves_clo hm hΓ hΨ hfns (by intro h; cases h) (fun c₀ hm' cs => ⟨.panicking [{ v := v, recovered := true }], ?_, rfl⟩) hx hs'
        unfold Recovers
        have : recoverD (c₀ :: cs) = some (v, { c₀ with mode := .panicking [{ v := v, recovered := true }] } :: cs) := by simp only [recoverD, hm', panE]
        rw [this]
        exact ⟨rfl, rfl⟩
    | ex i => cases d <;> cases hx
    | panP t ti => cases d <;> cases hx
end
def fnOfD (P : Program) (N : Nat) (gam : List (FuncId × Fun)) (pan : List (FuncId × FunP)) (txt : List (FuncId × Func)) (hints : List (FuncId × List (List Nat × Hint))) (f : FuncId) (fn : Func) (pars ress : List Sig.TI) (own : List (List (Option TypeId))) : Fn pars (Option (Ress ress)) :=
  bodyFnD ⟨P, N, lkF gam, lkP pan⟩ ⟨lkT txt, lkH hints⟩ f fn pars ress own
theorem den_ofD {P : Program} {N : Nat} {gam : List (FuncId × Fun)} {pan : List (FuncId × FunP)} {txt : List (FuncId × Func)} {hints : List (FuncId × List (List Nat × Hint))} {f : FuncId} {fn : Func} {pars ress : List Sig.TI} {own : List (List (Option TypeId))} {F : Fn pars (Option (Ress ress))}
    (hm : POk P) (hg : GamOk P gam) (hp : PsiOk P pan) (ht : TxtOk P txt) (hf : P.funcs[f]? = some fn) (hchk : (fn.body.isSome && !(fn.name == "runtime.NumGoroutine") && decide (pars.length ≤ fn.ntmps)) = true)
    (he : fnOfD P N gam pan txt hints f fn pars ress own = F) : DenF P f ⟨pars, ress, own, F⟩ := by
  simp only [Bool.and_eq_true, Bool.not_eq_true', decide_eq_true_eq] at hchk
  rw [← he]
  exact bodyFnD_den (cx := ⟨P, N, lkF gam, lkP pan⟩) (e2 := ⟨lkT txt, lkH hints⟩) hm hg.get hp.get ht.get hf hchk.1.1 hchk.1.2 hchk.2
end Go.Cm
